/- Parts. -/
import Derived.Test.YtcjhmiijbojgeaaGreatDoorZVWr
set_option linter.all false
open Nat renaming le_refl->Yc
open List renaming length_cons->Yk
namespace Go.Proofs.YtcjhmiijbojgeaaGreatDoor
open S Go.RowKit
structure S.az (st st':Vw)(H:Int)(ws:List Int):Prop where
 r26:st'.reg 26=H+ws.length+6
 reg:∀j,¬(4<=j/\j<=7)->j≠26->st'.reg j=st.reg j
 m5:st'.mem 5=4*(H+ws.length+3)+1
 m6:st'.mem 6=0
 m8:st'.mem 8=0
 old:∀a,a≠5->a≠6->a≠8->a≠16->(a<H\/H+ws.length+6<=a)->st'.mem a=st.mem a
 hd:st'.mem H=32*ws.length+19
 chars:∀k:Nat,k<ws.length->st'.mem (H+1+k)=ws.getD k 0
 s0:st'.mem (H+ws.length+1)=55
 s1:st'.mem (H+ws.length+2)=4*H+1
 p0:st'.mem (H+ws.length+3)=67
 p1:st'.mem (H+ws.length+4)=4*(H+ws.length+1)+1
 p2:st'.mem (H+ws.length+5)=st.mem 5
 inp:st'.inp=st.inp
 out:st'.out=st.out
def S.bz (st:Vw)(H:Int)(ws:List Int)(l:List (Int×List Int))(o:BO)(k:Nat):Prop :=
 k<=1000+60*ws.length+(400+60*ws.length)*l.length/\∃st',o=.ret st' /\
  match findW ws l with
  | some s=>st'.reg 4=4*s+1/\Sim st st'
  | none=>st'.reg 4=4*(H+ws.length+1)+1/\az st st' H ws
theorem Z8a {env:List Int}(h:(env.length:Int)=4):∃a b c d,env=[a,b,c,d]:=by
 match env,h with
 | [a,b,c,d],_=>exact⟨a,b,c,d,rfl⟩
 | [],h=>simp at h
 | [_],h=>simp at h
 | [_,_],h=>simp at h
 | [_,_,_],h=>simp at h
 | _::_::_::_::_::_,h=>simp only[Yk] at h;omega
section
variable {I:Img}(hV:VSegs I)
include hV
section
variable {dep lk:Int}{behind:Bool}{env:List Int}{s:Vw}{C:Nat}{Q:List Int->Vw->Nat->Prop}{R:BO->Nat->Prop}
theorem Zzg {n:Int}{name:ByteArray}{l:List BE}{r:List BS}{xs:List Int}{K N:Nat}{d:Int}{T:Vw->Nat->Prop}(b:Dat I n)(h0:0<=n/\n<1056)(v:Yls I dep lk env s l xs K)(i:dEs l<=19)(g:xs.length<=4)(q:∀a,Sim s a->Real I name false (a.args xs) d (λ _ o k=>∃s',o=.ret s'/\k<=N/\T s' k))(hd:d<=dep)
 (h:∀s' k,T s' k->WS I dep lk behind r env (s'.sto n (s'.reg 4)) (C+K+N+20) Q R):WS I dep lk behind (sKeep n (eF name l)::r) env s C Q R:=λ a c u hc=>by
 show wpSs I dep lk behind (sPut (eC n) 0 (eF name l)::r) env a c Q R
 rw[Zba,Zls,Z49,Zrz];refine v 1 a (c+2) _ _ (by omega) u λ f c2 j p=>⟨d,_,q f j,hd,λ ret o k m=>?_⟩
 obtain⟨s',rfl,hk,t⟩:=m;have e:u32m (n%4294967296+0)=n:=by unfold u32m;omega
 show u32m (n%4294967296+0)<I.size/\¬I.stk (u32m (n%4294967296+0))/\¬I.code (u32m (n%4294967296+0))/\_
 rw[e];exact⟨b.2.1,b.2.2.1,b.2.2.2,h s' k t _ _ (.refl _) (by omega)⟩
theorem Zzh {H w p r m l:Int}{words:BE}{K:Nat}{rest:List BS}(u:16<=dep)(q:b9 I s H w)(F:0<=lk/\lk<4294967296)(L:0<=w)(U:dE words<=15)(f:∀s':Vw,(∀a,a≠6->a≠8->a≠16->s'.mem a=s.mem a)->Yl I dep lk [p,r,m,l] s' words w K)
 (h:∀s':Vw,(∀a,a≠6->a≠8->a≠16->s'.mem a=s.mem a)->(∀j,¬(4<=j/\j<=7)->s'.reg j=s.reg j)->s'.mem 6=0->s'.mem 8=0->s'.inp=s.inp->s'.out=s.out->WS I dep lk behind rest [p,r,m,l] s' (C+K+200) Q R) :
 WS I dep lk behind (vRoom 1 words++rest) [p,r,m,l] s C Q R:=by
 have low:=λ n (h0:(0:Int)<=n) z=>q.low n h0 z
 show WS I dep lk behind (sKeep 16 (eL 0)::sKeep 8 (eC 1)::sKeep 6 eK::sDo (eF kReserve [words])::sAs 0 (eW 16)::sKeep 8 (eC 0)::sKeep 6 (eC 0)::rest) [p,r,m,l] s C Q R
 refine Za8 hV (v:=p) (low 16 (by decide) (by decide)) (by decide) (Zeu 0) (by decide) ?_;refine Za8 hV (v:=1) (low 8 (by decide) (by decide)) (by decide) (Za6 1) (by decide) ?_;refine Za8 hV (v:=lk) (low 6 (by decide) (by decide)) (by decide) Z8r (by decide) ?_;obtain⟨g,b⟩:=Yx (((s.sto 16 p).sto 8 1).sto 6 lk);rw[<- b];have m4:∀a,g.mem a=if a=6 then lk else if a=8 then 1 else if a=16 then p else s.mem a:=λ a=>by
  rw[b,Z3,Z3,Z3]
 have r4:g.reg=s.reg:=by rw[b];rfl
 have X:g.inp=s.inp:=by rw[b];rfl
 have G:g.out=s.out:=by rw[b];rfl
 have E:=q.r26;have M:=q.r27;have B:=q.top;have P:=q.H0;refine Z5x (d:=16) (xs:=[w]) (T:=λ o k=>∃c,o=.ret c/\Sim g c/\k<=60) (Zbh (f g λ a y x i=>by rw[m4,if_neg y,if_neg x,if_neg i]) Ze8) (by rw[dEs,dEs];omega) (by simp) (λ t A=>?_) u λ o k O=>?_
 .have hA:Sim g (t.args [w]):=A.args (by simp)
  have:=Zn5 hV (st:=t.args [w]) (need:=w) (by rfl) L (by rw[hA.mem,m4,if_neg (by decide),if_neg (by decide),if_neg (by decide)];exact q.m7) (low 7 (by decide) (by decide)) (by
   rw[hA.reg 26 (by decide),hA.reg 27 (by decide),r4];omega)
  exact this.mono λ _ o k h=>by
   obtain⟨c,e,W,D⟩:=h;exact⟨c,e,hA.trans W,D⟩
 obtain⟨sA,rfl,hA,D⟩:=O
 show WS I dep lk behind _ [p,r,m,l] sA _ _ _
 have J:∀(env:List Int)(n v:Int),0<=n->n<1056->sA.mem n=v->Yl I dep lk env sA (eW n) v 3:=λ env n v h0 z V=>(Zpb (n:=0) (p:=n) (Za6 n) (by unfold u32m;omega) (Za1 (low n h0 z))).to_ V (Yc _)
 refine Zds (J _ 16 p (by decide) (by decide) (by rw[hA.mem,m4,if_neg (by decide),if_neg (by decide),if_pos rfl])) (by decide) ?_
 show WS I dep lk behind _ [p,r,m,l] sA _ _ _
 refine Za8 hV (v:=0) (low 8 (by decide) (by decide)) (by decide) (Za6 0) (by decide) ?_;refine Za8 hV (v:=0) (low 6 (by decide) (by decide)) (by decide) (Za6 0) (by decide) ?_;have m6:∀a,((sA.sto 8 0).sto 6 0).mem a=if a=6 then 0 else if a=8 then 0 else g.mem a:=λ a=>by rw[Z3,Z3,hA.mem]
 refine(h ((sA.sto 8 0).sto 6 0) (λ a y x i=>?_) (λ j N=>?_) ?_ ?_ (hA.inp.trans X) (hA.out.trans G)).more (by omega)
 .rw[m6,if_neg y,if_neg x,m4,if_neg y,if_neg x,if_neg i]
 .show sA.reg j=_
  rw[hA.reg j N,r4]
 .rw[m6,if_pos rfl]
 .rw[m6,if_neg (by decide),if_pos rfl]
end
theorem Zph {i0:Nat}(hs:Seg I (kRt 25) i0 (bItems vIntern)){st:Vw}{ret H p:Int}{ws:List Int}{l:List (Int×List Int)}(h4:st.reg 4=4*p+1)(hw:StrAt I st.mem p ws)(hl:ws.length<=10000)(hL:SymL I st.mem (st.mem 5) l)(hr:b9 I st H (ws.length+6))(f9:1312<=p)(g0:p+ws.length<H)(d6:0<=ret/\ret<4294967296) :
 aj I (kRt 25) true st 59 ret (bz st H ws l):=by
 refine Zj4 hV.ok vIntern (by kernel_rfl) hs (dep:=40) (by decide) st ret _ λ env d3 hp=>?_
 obtain⟨e0,e1,e2,e3,rfl⟩:=Z8a d3;have h0:e0=4*p+1:=(hp 0 (show(0:Int)<1 by decide)).trans h4;subst h0;obtain⟨n,V⟩:=Yx ws.length;have hsz:=hV.ok.size2;have g2:=hr.H0;have f8:=hr.r26;have Y:=hw.hd.dat 0 (by have:=hw.hd.few;omega);rw[show p+((0:Nat):Int)=p by omega] at Y;have b0:=Y.1;have b1:=Y.2.1;have g1:=(hr.dat H (by omega) (by omega)).2.1;have f6:=(hr.dat (H+ws.length+5) (by omega) (by omega)).2.1;have l0:∀a b c s,Yl I 40 ret [4*p+1,a,b,c] s (eL 0) (4*p+1) 1:=λ a b c s=>Zeu 0
 show WS I 40 ret true (vObject (eL 0) 4::sAs 1 (eW 5) ::
  sWh (eNot (eQ (eL 1) (eC 38))) [sWhen (eF kAlike [eL 0,eM (eAdr vFound) 1]) [S.sVal vFound],sAs 1 (eM (eAdr (eL 1)) 2)] ::
  (vRoom 1 (eAdd (vLen (eL 0)) (eC 6)) ++
  (sAs 2 (vLen (eL 0))::sAs 3 (eC 0)::sWh (eNot (eLt (eL 2) (eL 3))) [sPut (eAdd vHeap (eL 3)) 0 (eM (eAdd (eAdr (eL 0)) (eL 3)) 0),sAs 3 (eAdd (eL 3) (eC 1))]::vTook (eL 3)::sAs 0 (eRef (eSub vHeap (eL 3)))::sPut vHeap 0 (eC (vHd 5 1))::sPut vHeap 1 (eL 0)::sAs 0 (eRef vHeap)::vTook (eC 2)::sKeep 5 (eF kCons [eL 0,eW 5])::[S.sVal (eL 0)]))) [4*p+1,e1,e2,e3] st 8 _ _
 refine Zw9 hV (by decide) (l0 _ _ _ _) (by decide) hw.hd (by decide) rfl ?_;have c6:=hr.low 5 (by decide) (by decide);refine Zds (Zpb (n:=0) (p:=5) (Za6 5) (by decide) (Za1 c6)) (by decide) ?_
 show WS I 40 ret true _ [4*p+1,st.mem 5,e2,e3] st _ _ _
 refine Zy0 (by decide) (λ env s C k=>s=st/\∃(v:Int)(l':List (Int×List Int)),env=[4*p+1,v,e2,e3]/\SymL I st.mem v l'/\l'.length=k/\findW ws l=findW ws l'/\C+(400+60*ws.length)*k<=200+(400+60*ws.length)*l.length) (k0:=l.length) ⟨rfl,_,l,rfl,hL,rfl,rfl,by omega⟩ ?_;rintro env s C k ⟨rfl,v,l',rfl,c3,hk,A,hC⟩;have y1:∀s,Yl I 40 ret [4*p+1,v,e2,e3] s (eL 1) v 1:=λ s=>Zeu 1
 refine⟨_,_,Zpa (Zpa (y1 _) (Za6 38)) (Za6 0),λ hz=>?_,λ X=>?_⟩
 .-- none is alike
  have hv:v=38:=Y_c λ c=>by
   have e:¬v=38%4294967296:=λ q=>c (q.trans (by decide))
   rw[if_neg e,if_pos (by decide)] at hz
   cases hz
  subst hv;have e7:l'=[]:=by
   generalize hx:(38:Int)=x at c3
   cases c3 with
   | nil=>rfl
   | cons hq h1 hs r ht hl=>omega
  subst e7;have c4:findW ws l=none:=A;have e9:k=0:=hk.symm;subst e9;have b6:∀(a b c:Int)(s':Vw),s'.mem p=s.mem p->Yl I 40 ret [4*p+1,a,b,c] s' (vLen (eL 0)) n 8:=λ a b c s' h=>((Zc9 (op:=11) (by decide) (Zpb (n:=0) (Zgt (l0 a b c s')) (p:=p) (by unfold u32m;omega) (Za1 Y)) (Za6 5)).to_ (y:=(n:Int)) (by rw[h,hw.hd.hd,Z7r];omega) (by decide))
  refine Zzh hV (w:=(ws.length:Int)+6) (H:=H) (K:=11) (by decide) hr d6 (by omega) (by decide) (λ s' f3=>(Zc9 (op:=1) (by decide) (b6 _ _ _ s' (f3 p (by omega) (by omega) (by omega))) (Za6 6)).to_ (by rw[Zgf];unfold u32m;omega) (by decide)) λ M hm b8 m6 m8 d8 f2=>?_
  have f5:M.reg 26=H:=(b8 26 (by decide)).trans hr.r26;refine Zds (b6 _ _ _ M (hm p (by omega) (by omega) (by omega))) (by decide) ?_
  show WS I 40 ret true _ [4*p+1,38,(n:Int),e3] M _ _ _
  refine Zds (Za6 0) (by decide) ?_
  show WS I 40 ret true _ [4*p+1,38,(n:Int),0] M _ _ _
  refine Zy0 (by decide) (λ env s' C k=>∃i:Nat,i<=n+1/\k=n+1-i/\env=[4*p+1,38,(n:Int),(i:Int)]/\s'.reg=M.reg/\s'.inp=M.inp/\s'.out=M.out/\(∀a,s'.mem a=if H<=a/\a<H+i then M.mem (p+(a-H)) else M.mem a)/\C<=200+(400+60*ws.length)*l.length+300+40*i) (k0:=n+1) ⟨0,Nat.zero_le _,rfl,rfl,rfl,rfl,rfl,λ a=>by rw[if_neg (by omega)],by omega⟩ ?_;rintro env s' C' k ⟨i,hi,rfl,rfl,z,G,L,u,g3⟩;have d7:s'.reg 26=H:=by rw[z];exact f5
  have B:∀(env:List Int)(s:Vw)(x:Int),s.reg 26=x->Yl I 40 ret env s vHeap x 1:=λ env s x h=>(Z5v (n:=26) (by decide)).to_ h (Yc _)
  have y3:∀a s,Yl I 40 ret [a,38,(n:Int),(i:Int)] s (eL 3) i 1:=λ a s=>Zeu 3
  refine⟨_,_,Zpa ((Zc9 (op:=14) (by decide) (Zeu 2) (y3 _ _)).to_ (Zjs (n:Int) i) (Yc _)) (Za6 0),λ hz=>?_,λ X=>?_⟩
  .-- copied
   have f1:i=n+1:=by
    by_cases c:(n:Int)<i
    .omega
    .rw[if_neg c] at hz;cases hz
   subst f1;refine Zvw (x:=H+n+1) ((Zc9 (op:=1) (by decide) (B _ _ H d7) (y3 _ _)).to_ (by rw[Zgf];unfold u32m;omega) (Yc _)) (by decide) ?_;have E:(s'.set 26 (H+n+1)).reg 26=H+n+1:=Zg _ _ _;obtain⟨s6,b2⟩:=Yx (s'.set 26 (H+n+1));rw[<- b2] at E⊢;have b7:s6.mem=s'.mem:=by rw[b2];rfl
   have d0:∀j,j≠26->s6.reg j=s'.reg j:=λ j W=>by rw[b2];exact Zd _ _ W
   refine Zds (x:=4*H+1) ((Zc9 (op:=8) (by decide) (Zc9 (op:=10) (by decide) (Zc9 (op:=2) (by decide) (B _ _ _ E) (y3 _ _)) (Za6 2)) (Za6 1)).to_ (by
    rw[Z3v,Z5j,show u32m (u32m (H+n+1-((n+1:Nat):Int))*4)=4*H from by unfold u32m;omega,or1 (by omega) (by omega) (by omega)]) (Yc _)) (by decide) ?_
   show WS I 40 ret true _ [4*H+1,38,(n:Int),((n+1:Nat):Int)] s6 _ _ _
   have dt:∀a,H<=a->a<H+n+6->Dat I a:=λ a a0 a1=>hr.dat a a0 (by omega)
   have d1:=dt (H+n+1) (by omega) (by omega);have d2:=dt (H+n+2) (by omega) (by omega);refine Zkm (p:=H+n+1) (B _ _ _ E) (Za6 (vHd 5 1)) (by decide) (by decide) (by unfold u32m;omega) d1.2 ?_;refine Zkm (p:=H+n+2) (B _ _ (H+n+1) E) (Zeu 0) (by decide) (by decide) (by unfold u32m;omega) d2.2 ?_;obtain⟨s7,a9⟩:=Yx ((s6.sto (H+n+1) (vHd 5 1%4294967296)).sto (H+n+2) (4*H+1))
   show WS I 40 ret true _ [4*H+1,38,(n:Int),((n+1:Nat):Int)] ((s6.sto (H+n+1) (vHd 5 1%4294967296)).sto (H+n+2) (4*H+1)) _ _ _
   rw[<- a9];have J:s7.reg=s6.reg:=by rw[a9];rfl
   have b3:∀a,s7.mem a=if a=H+n+2 then 4*H+1 else if a=H+n+1 then 55 else s6.mem a:=λ a=>by
    rw[a9,Z3,Z3];rfl
   refine Zds (x:=4*(H+n+1)+1) ((Zc9 (op:=8) (by decide) (Zc9 (op:=10) (by decide) (B _ _ (H+n+1) (by rw[J];exact E)) (Za6 2)) (Za6 1)).to_ (by
    rw[Z5j,show u32m ((H+n+1)*4)=4*(H+n+1) from by unfold u32m;omega,or1 (by omega) (by omega) (by omega)]) (Yc _)) (by decide) ?_
   show WS I 40 ret true _ [4*(H+n+1)+1,38,(n:Int),((n+1:Nat):Int)] s7 _ _ _
   refine Zvw (x:=H+n+3) ((Zc9 (op:=1) (by decide) (B _ _ (H+n+1) (by rw[J];exact E)) (Za6 2)).to_ (by rw[Zgf];unfold u32m;omega) (Yc _)) (by decide) ?_;obtain⟨P,O⟩:=Yx (s7.set 26 (H+n+3));rw[<- O];have g8:P.reg 26=H+n+3:=by rw[O];exact Zg _ _ _
   have b5:P.mem=s7.mem:=by rw[O];rfl
   have d4:∀j,j≠26->P.reg j=s7.reg j:=λ j W=>by rw[O];exact Zd _ _ W
   have c9:P.inp=s.inp/\P.out=s.out:=by
    rw[O,a9,b2];exact⟨G.trans d8,L.trans f2⟩
   have m5:P.mem 5=s.mem 5:=by
    rw[b5,b3,if_neg (by omega),if_neg (by omega),b7,u,if_neg (by omega)];exact hm 5 (by decide) (by decide) (by decide)
   have y5:Yl I 40 ret [4*(H+n+1)+1,38,(n:Int),((n+1:Nat):Int)] P (eW 5) (s.mem 5) 3:=(Zpb (n:=0) (p:=5) (Za6 5) (by decide) (Za1 c6)).to_ m5 (Yc _);obtain⟨iN,hN⟩:=hV.cons;refine Zzg hV (xs:=[4*(H+n+1)+1,s.mem 5]) (d:=17) (N:=60) (T:=λ s9 k=>∃sB,Sim P sB/\s9=(ao sB (H+n+3) (4*(H+n+1)+1) (s.mem 5)).set 4 (4*(H+n+3)+1)) c6 (by decide) (Zbh (Zeu 0) (Zbh y5 Ze8)) (by decide) (by simp) (λ d5 e8=>?_) (by decide) λ s9 k hT=>?_
   .have hA:Sim P (d5.args [4*(H+n+1)+1,s.mem 5]):=e8.args (by simp)
    have:=Zth hV.ok hN (st:=d5.args [4*(H+n+1)+1,s.mem 5]) (p:=H+n+3) ((hA.reg 26 (by decide)).trans g8) (λ j W=>dt _ (by omega) (by omega));exact this.mono λ _ o k h=>⟨_,h.1,h.2,_,hA,rfl⟩
   obtain⟨sB,hB,rfl⟩:=hT;have r4:((ao sB (H+n+3) (4*(H+n+1)+1) (s.mem 5)).set 4 (4*(H+n+3)+1)).reg 4=4*(H+n+3)+1:=Zg _ _ _;rw[r4];obtain⟨U,D⟩:=Yx (((ao sB (H+n+3) (4*(H+n+1)+1) (s.mem 5)).set 4 (4*(H+n+3)+1)).sto 5 (4*(H+n+3)+1));rw[<- D];have f:∀a,U.mem a=if a=5 then 4*(H+n+3)+1 else if a=H+n+3+2 then s.mem 5 else if a=H+n+3+1 then 4*(H+n+1)+1 else if a=H+n+3 then 67 else P.mem a:=λ a=>by
    rw[D,Z3]
    show(if a=5 then _ else if a=H+n+3+2 then _ else if a=H+n+3+1 then _ else if a=H+n+3 then _ else sB.mem a)=_
    rw[hB.mem]
   have F:∀j,j≠4->U.reg j=if j=26 then H+n+3+3 else sB.reg j:=λ j W=>by
    rw[D]
    show(if j=4 then _ else if j=26 then _ else sB.reg j)=_
    rw[if_neg W]
   have c0:U.inp=s.inp/\U.out=s.out:=by
    rw[D];exact⟨hB.inp.trans c9.1,hB.out.trans c9.2⟩
   have m:∀a,P.mem a=if a=H+n+2 then 4*H+1 else if a=H+n+1 then 55 else if H<=a/\a<H+((n+1:Nat):Int) then M.mem (p+(a-H)) else M.mem a:=λ a=>by
    rw[b5,b3,b7,u]
   refine Zqj (Zeu 0) (by decide) λ g c2 r f0=>?_
   have d9:∀a,(g.set 4 (4*(H+n+1)+1)).mem a=U.mem a:=λ a=>by
    show g.mem a=_
    rw[r.mem]
   refine⟨by simp only[Nat.mul_zero] at hC⊢;omega,_,rfl,?_⟩;rw[c4];simp only;rw[<- V];refine⟨Zg _ _ _,⟨?_,λ j W c7=>?_,?_,?_,?_,λ a a5 a6 a8 f4 ha=>?_,?_,λ k hk=>?_,?_,?_,?_,?_,?_,r.inp.trans c0.1,r.out.trans c0.2⟩⟩
   .rw[<- V]
    show(g.set 4 _).reg 26=_
    rw[Zd _ _ (by decide),r.reg 26 (by decide),F 26 (by decide),if_pos rfl];omega
   .show(g.set 4 _).reg j=_
    rw[Zd _ _ (by omega),r.reg j W,F j (by omega),if_neg c7,hB.reg j W,d4 j c7,J,d0 j c7,z,b8 j W]
   .rw[<- V]
    exact(d9 5).trans ((f 5).trans (if_pos rfl))
   .show g.mem 6=0
    rw[r.mem,f,if_neg (by decide),if_neg (by omega),if_neg (by omega),if_neg (by omega),m,if_neg (by omega),if_neg (by omega),if_neg (by omega)];exact m6
   .show g.mem 8=0
    rw[r.mem,f,if_neg (by decide),if_neg (by omega),if_neg (by omega),if_neg (by omega),m,if_neg (by omega),if_neg (by omega),if_neg (by omega)];exact m8
   .rw[<- V] at ha
    show g.mem a=_
    rw[r.mem,f,if_neg a5,if_neg (by omega),if_neg (by omega),if_neg (by omega),m,if_neg (by omega),if_neg (by omega),if_neg (by omega)];exact hm a a6 a8 f4
   .rw[<- V]
    show g.mem H=_
    rw[r.mem,f,if_neg (by omega),if_neg (by omega),if_neg (by omega),if_neg (by omega),m,if_neg (by omega),if_neg (by omega),if_pos (by omega),Int.sub_self,Int.add_zero,hm p (by omega) (by omega) (by omega),hw.hd.hd];omega
   .show g.mem _=_
    rw[r.mem,f,if_neg (by omega),if_neg (by omega),if_neg (by omega),if_neg (by omega),m,if_neg (by omega),if_neg (by omega),if_pos (by omega),show p+(H+1+(k:Int)-H)=p+1+k by omega,hm _ (by omega) (by omega) (by omega)];exact hw.at_ k hk
   .rw[<- V]
    show g.mem _=_
    rw[r.mem,f,if_neg (by omega),if_neg (by omega),if_neg (by omega),if_neg (by omega),m,if_neg (by omega),if_pos rfl]
   .rw[<- V]
    show g.mem _=_
    rw[r.mem,f,if_neg (by omega),if_neg (by omega),if_neg (by omega),if_neg (by omega),m,if_pos rfl]
   .rw[<- V]
    show g.mem _=_
    rw[r.mem,f,if_neg (by omega),if_neg (by omega),if_neg (by omega),if_pos rfl]
   .rw[<- V]
    show g.mem _=_
    rw[r.mem,f,if_neg (by omega),if_neg (by omega),if_pos (by omega)]
   .rw[<- V]
    show g.mem _=_
    rw[r.mem,f,if_neg (by omega),if_pos (by omega)]
  .-- one more word
   have g4:¬(n:Int)<i:=λ c=>by rw[if_pos c] at X;exact X rfl
   have e4:=hw.hd.dat i (by omega);have e6:=hr.dat (H+i) (by omega) (by omega);have c8:∀s,Yl I 40 ret [4*p+1,38,(n:Int),(i:Int)] s (eAdd (eAdr (eL 0)) (eL 3)) (p+i) 6:=λ s=>(Zc9 (op:=1) (by decide) (Zgt (l0 _ _ _ s)) (y3 _ _)).to_ (by rw[Zgf];unfold u32m;omega) (by decide)
   have ym:=Zpb (n:=0) (p:=p+i) (c8 s') (by unfold u32m;omega) (Za1 e4);refine Zkm (p:=H+i) ((Zc9 (op:=1) (by decide) (B _ _ H d7) (y3 _ _)).to_ (y:=H+i) (by rw[Zgf];unfold u32m;omega) (Yc _)) ym (by decide) (by decide) (by unfold u32m;omega) e6.2 ?_;refine Zds (x:=(i:Int)+1) ((Zc9 (op:=1) (by decide) (y3 _ _) (Za6 1)).to_ (by rw[Zgf];unfold u32m;omega) (Yc _)) (by decide) ?_;refine Zhh (k2:=n+1-(i+1)) (by omega) ⟨i+1,by omega,rfl,rfl,z,G,L,λ a=>?_,by omega⟩;rw[Z3,u,u];by_cases c1:a=H+i
   .rw[if_pos c1,if_neg (by omega),if_pos (by omega),show p+(a-H)=p+i by omega]
   .rw[if_neg c1]
    by_cases c2:H<=a/\a<H+i
    .rw[if_pos c2,if_pos (by omega)]
    .rw[if_neg c2,if_neg (by omega)]
 .-- one of the list
  cases c3 with
  | nil =>
   exfalso
   exact X (by decide)
  | @cons q sy t xs l2 hq h1 hsy r ht hl2 =>
   obtain⟨k2,rfl⟩:∃k2,k=k2+1:=⟨l2.length,by rw[<- hk,Yk]⟩
   have e5:l2.length=k2:=by rw[Yk] at hk;omega
   have a7:=hq.dat 1 (by decide);have c5:=hq.dat 2 (by decide);have Z:=hsy.dat 1 (by decide);rw[show q+((1:Nat):Int)=q+1 by omega] at a7;rw[show q+((2:Nat):Int)=q+2 by omega] at c5;rw[show sy+((1:Nat):Int)=sy+1 by omega] at Z;have a1:=a7.2.1;have a2:=c5.2.1;have a3:=Z.2.1;have a4:=a7.1;have a5:=Z.1;have yf:Yl I 40 ret [4*p+1,4*q+1,e2,e3] s vFound (4*sy+1) 5:=(Zpb (n:=1) (p:=q+1) (Zgt (y1 _)) (by unfold u32m;omega) (Za1 a7)).to_ h1 (by decide);have yt:Yl I 40 ret [4*p+1,4*q+1,e2,e3] s (eM (eAdr vFound) 1) (4*t+1) 9:=(Zpb (n:=1) (p:=sy+1) (Zgt yf) (by unfold u32m;omega) (Za1 Z)).to_ r (by decide);have ya:=Z6v (dep:=40) (lk:=ret) (Zbh (l0 _ _ _ s) (Zbh yt Ze8)) (by simp) (Zpq hV hw ht hl) (by decide);have f7:(400+60*ws.length)*(k2+1)=(400+60*ws.length)*k2+(400+60*ws.length):=Nat.mul_succ _ _;refine Zcb ya (by decide) (λ hz=>?_) (λ b4=>?_)
   .have hne:¬ws=xs:=λ c=>by rw[if_pos c] at hz;cases hz
    have yn:Yl I 40 ret [4*p+1,4*q+1,e2,e3] s (eM (eAdr (eL 1)) 2) (s.mem (q+2)) 5:=(Zpb (n:=2) (p:=q+2) (Zgt (y1 _)) (by unfold u32m;omega) (Za1 c5)).to_ rfl (by decide);refine Zds yn (by decide) ?_;refine Zhh (k2:=k2) (by omega) ⟨rfl,_,l2,rfl,hl2,e5,?_,by omega⟩;rw[A,findW,if_neg hne]
   .have he:ws=xs:=Y_c λ c=>by rw[if_neg c] at b4;exact b4 rfl
    refine Zqj yf (by decide) λ g c2 r f0=>?_
    refine⟨by omega,_,rfl,?_⟩;rw[A,findW,if_pos he];exact⟨Zg _ _ _,r.set4 _⟩
end
