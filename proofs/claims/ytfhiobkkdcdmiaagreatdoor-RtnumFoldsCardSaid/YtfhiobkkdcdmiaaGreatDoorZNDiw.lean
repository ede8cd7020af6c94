/- Parts. -/
import Derived.Test.YtfhiobkkdcdmiaaGreatDoorZNDvr
set_option linter.all false
open Nat renaming le_refl->Yb,add_mul->Yci
open List renaming length_cons->Yi,length_take->Yq,take_append_drop->Yay
open Int renaming le_refl->Y7,pow_pos->Yar,le_of_lt->Ya3
namespace Go.Proofs.YtfhiobkkdcdmiaaGreatDoor
open Go.RowKit
section
theorem Z40 {a:Int}(ha:0<=a/\a<65536):S.alu 10 a (16%4294967296)=a*65536:=by
 show S.u32m (a*65536)=_
 unfold S.u32m;omega
theorem Z0c {a b:Int}(ha:0<=a/\a<65536)(hb:0<=b/\b<65536):S.alu 8 (a*65536) b=a*65536+b :=
 Zw 16 (a*65536) b 65536 (by decide) (by omega) (by omega) (by omega) (by omega) (by omega) (by omega)
theorem Z7j (x y:Int):S.alu 5 x y=x/y:=rfl
section
variable {I:S.Img}(hN:S.NSegs I)
include hN
theorem Z2h {dep lk:Int}{st:S.Vw}{C:Nat}{Q:List Int->S.Vw->Nat->Prop}{R:S.BO->Nat->Prop}{x y t m n r v j g o:Int}{rest:List S.BS}(hg:1<=g/\g<65536)
 (hrest:∀k:Nat,k<=15->32768<=g*2^k->g*2^k<65536->S.WS I dep lk false rest [x,y,t,m,n,(k:Int),r,v,j,g,o] st (C+400) Q R) :
 S.WS I dep lk false (S.sWh (S.eLt (S.eB 10 (S.eL 9) (S.eL 5)) (S.eC 32768)) [S.sInc 5]::rest) [x,y,t,m,n,0,r,v,j,g,o] st C Q R:=by
 refine Zfe (by decide) (λ env s2 C2 k=>∃i:Nat,env=[x,y,t,m,n,(i:Int),r,v,j,g,o]/\s2=st/\g*2^i<65536/\i<=15/\k=16-i/\C2<=C+20*i) (k0:=16) ⟨0,rfl,rfl,by simp;omega,by decide,rfl,by omega⟩ ?_;rintro env s2 C2 k ⟨i,rfl,rfl,hlt,hi,rfl,hC⟩;have y1:=Zn (I:=I) (dep:=dep) (lk:=lk) (st:=s2) (op:=14) (by decide) (Zn (op:=10) (by decide) (Zs 9) (Zs 5)) (Zp 32768) (env:=[x,y,t,m,n,(i:Int),r,v,j,g,o]);rw[Zcg] at y1;have e1:S.alu 10 g (i:Int)=g*2^i:=Z6v hi rfl ⟨by omega,by omega⟩;have y2:=y1.to_ (y:=if g*2^i<32768 then 1 else 0) (by
  show(if S.alu 10 g (i:Int)<_ then _ else _)=_
  rw[e1];rfl) (Yb _)
 refine⟨_,_,y2,λ hz=>?_,λ hnz=>?_⟩
 .have hge:¬g*2^i<32768:=λ q=>by rw[if_pos q] at hz;cases hz
  exact(hrest i hi (by omega) hlt).more (by omega)
 .have hl2:g*2^i<32768:=Y_c λ q=>hnz (if_neg q)
  have h2:g*2^(i+1)<65536:=by rw[Int.pow_succ,<- Int.mul_assoc];omega
  have hi2:i+1<=15:=by
   refine Y_c λ c=>?_
   have:i=15:=by omega
   subst this;have e:(2:Int)^15=32768:=by decide
   rw[e] at hl2;omega
  refine Zo ((Zn (op:=1) (by decide) (Zs 5) (Zp 1)).to_ (y:=((i+1:Nat):Int)) (by
   show S.alu 1 (i:Int) _=_
   rw[Zat];unfold S.u32m;omega) (Yb _)) (by decide) ?_
  show S.WS I dep lk false _ [x,y,t,m,n,((i+1:Nat):Int),r,v,j,g,o] s2 _ _ _
  exact Z3 (k2:=16-(i+1)) (by omega) ⟨i+1,rfl,rfl,h2,hi2,rfl,by omega⟩
theorem Z2i {lk:Int}{st s:S.Vw}{C:Nat}{Q:List Int->S.Vw->Nat->Prop}{R:S.BO->Nat->Prop}{H x y t sh g0 o0 V X:Int}{m n n1 W:Nat}{acc vd:List Int}{rest:List S.BS}(h26:st.reg 26=H)(hD:S.DvS st s H m n (m-n+1) [] acc vd)(hla:acc.length=m+1)(hlv:vd.length=n+1)(da:S.Digs acc)(dv:S.Digs vd)(hn1:n=n1+1)(hnm:n<=m)(hn:n<=900)(hm:m<=900)
 (hV:V=S.dval (vd.take n)) (hw:32768<=vd.getD n1 0) (hX:X=S.dval acc) (hlt:S.dval acc<V*65536^(m-n+1)) (hdat:∀a,H<=a->a<H+2*m+n+6->S.Dat I a) (hW:W=850+250*n)
 (hrest:∀g o s' qs acc',S.DvS st s' H m n 0 qs acc' vd->qs.length=m-n+1->S.Digs qs->acc'.length=m+1->S.Digs acc'->X=S.dval acc'+S.dval qs*V->S.dval acc'<V ->
  S.WS I 55 lk false rest [x,y,t,(m:Int),(n:Int),sh,H+m+4,H+m+4+m+1,0,g,o] s' (C+5+(m-n+1)*W) Q R) :
 S.WS I 55 lk false (S.sWh (S.eL 8)
 [S.sAs 8 (S.eSub (S.eL 8) (S.eC 1)),
  S.sAs 9 (S.eB 5 S.eTop (S.eM (S.eAdd (S.eL 7) (S.eL 4)) (-1))),
  S.sWhen (S.eLt (S.eC 65535) (S.eL 9)) [S.sAs 9 (S.eC 65535)],
  S.sAs 10 (S.eF S.kNTake [S.eAt,S.eL 7,S.eL 4,S.eL 9]),
  S.sWh (S.eL 10) [S.sAs 9 (S.eSub (S.eL 9) (S.eC 1)),S.sWhen (S.eF S.kNBack [S.eAt,S.eL 7,S.eL 4]) [S.sAs 10 (S.eC 0)]],
  S.sPut (S.eAdd S.eH (S.eL 8)) 2 (S.eDg (S.eL 9))]::rest) [x,y,t,(m:Int),(n:Int),sh,H+m+4,H+m+4+m+1,((m-n+1:Nat):Int),g0,o0] s C Q R:=by
 have hsz:=hN.ok.size2;have hA0:=(hdat H (Y7 _) (by omega)).1;have hAl:=(hdat (H+2*m+n+5) (by omega) (by omega)).2.1;have dvt:=Zap dv n;have lvt:(vd.take n).length=n:=by rw[Yq];omega
 have hVb:0<=V/\V<65536^n:=by
  have h1:=Zk dvt;have h2:=Zgz dvt;rw[lvt] at h2;rw[hV];exact⟨h1,h2⟩
 have hT:(0:Int)<65536^n1:=Yar (by decide);obtain⟨w,hw2⟩:=Yx (vd.getD n1 0);have bw:=Zz dv n1;rw[<- hw2] at hw bw;have hVe:V=w*65536^n1+S.psum (vd.take n) n1:=by
  rw[hV,<- Zam (x:=vd.take n) (n:=n1+1) (by omega),S.psum,Zaq (by omega),<- hw2];omega
 have hV0:=Zi4 dvt n1;have hVp:0<V:=by
  have:0<w*65536^n1:=Int.mul_pos (by omega) hT;omega
 refine Zfe (by decide) (λ env s2 C2 k=>∃(j:Nat)(g o:Int)(qs acc2:List Int),env=[x,y,t,(m:Int),(n:Int),sh,H+m+4,H+m+4+m+1,(j:Int),g,o]/\j=k/\S.DvS st s2 H m n j qs acc2 vd/\j+qs.length=m-n+1/\acc2.length=m+1/\S.Digs acc2/\S.Digs qs/\X=S.dval acc2+S.dval qs*65536^j*V/\S.dval acc2<V*65536^j/\C2<=C+qs.length*W) (k0:=m-n+1)
  ⟨m-n+1,g0,o0,[],acc,rfl,rfl,hD,rfl,hla,da,(λ d hd=>by cases hd),by show X=S.dval acc+0*_*V;rw[hX];simp,hlt,by simp⟩ ?_
 rintro env s2 C2 k ⟨j,g,o,qs,acc2,rfl,rfl,hD2,hjq,hla2,da2,dq,hX2,hlt2,hC2⟩;refine⟨(j:Int),1,Zs 8,λ hz=>?_,λ hnz=>?_⟩
 .have hj0:j=0:=by omega
  subst hj0;have hql:qs.length=m-n+1:=by omega
  refine(hrest g o s2 qs acc2 hD2 hql dq hla2 da2 (by rw[hX2];simp) (by simpa using hlt2)).more ?_;rw[<- hql];omega
 obtain⟨j,rfl⟩:∃q,j=q+1:=⟨j-1,by omega⟩
 have hj:j+n<=m:=by omega
 have l4:∀s j g o,S.Yl I 55 lk [x,y,t,(m:Int),(n:Int),sh,H+m+4,H+m+4+m+1,j,g,o] s (S.eL 4) n 1:=λ s j g o=>Zs 4
 have l6:∀s j g o,S.Yl I 55 lk [x,y,t,(m:Int),(n:Int),sh,H+m+4,H+m+4+m+1,j,g,o] s (S.eL 6) (H+m+4) 1:=λ s j g o=>Zs 6
 have l7:∀s j g o,S.Yl I 55 lk [x,y,t,(m:Int),(n:Int),sh,H+m+4,H+m+4+m+1,j,g,o] s (S.eL 7) (H+m+4+m+1) 1:=λ s j g o=>Zs 7
 have l8:∀s j g o,S.Yl I 55 lk [x,y,t,(m:Int),(n:Int),sh,H+m+4,H+m+4+m+1,j,g,o] s (S.eL 8) j 1:=λ s j g o=>Zs 8
 have l9:∀s j g o,S.Yl I 55 lk [x,y,t,(m:Int),(n:Int),sh,H+m+4,H+m+4+m+1,j,g,o] s (S.eL 9) g 1:=λ s j g o=>Zs 9
 obtain⟨wd1,wd2,wd3,wd4,wd5⟩:=Z41 da2 (j:=j) (n:=n) (V:=V) (by omega) hVb hlt2;obtain⟨U,hUe⟩:=Yx (S.dval ((acc2.drop j).take (n+1)));rw[<- hUe] at wd1 wd3;have dwin:=Zap (Zbd da2 j) (n+1);have lwin:((acc2.drop j).take (n+1)).length=n+1:=by rw[Yq,List.length_drop];omega
 have hU0:0<=U:=by rw[hUe];exact Zk dwin
 obtain⟨un,hun⟩:∃q,q=acc2.getD (j+n) 0:=⟨_,rfl⟩
 obtain⟨um,hum⟩:∃q,q=acc2.getD (j+n1) 0:=⟨_,rfl⟩
 have bun:=Zz da2 (j+n);have bum:=Zz da2 (j+n1);rw[<- hun] at bun;rw[<- hum] at bum;have hUx:U=(un*65536+um)*65536^n1+S.psum ((acc2.drop j).take (n+1)) n1:=by
  rw[hUe,<- Zam (x:=(acc2.drop j).take (n+1)) (n:=n1+1+1) (by omega),S.psum,S.psum,Zaq (by omega),Zaq (by omega),Zeh,Zeh,<- hum,<- hn1,<- hun,hn1,Int.pow_succ];generalize (65536:Int)^n1=T;generalize S.psum ((acc2.drop j).take (n1+1+1)) n1=P
  grind
 have hU0b:=Zi4 dwin n1;obtain⟨gg,hgg⟩:∃q,q=if 65535<(un*65536+um)/w then 65535 else(un*65536+um)/w:=⟨_,rfl⟩
 obtain⟨kn1,kn2,kn3,kn4⟩:=Z6d hT hw hVe hV0.1 hV0.2 hUx hU0b.1 hU0b.2 (by omega) wd3 hgg;refine Zo ((Zn (op:=2) (by decide) (l8 s2 _ _ _) (Zp 1)).to_ (y:=(j:Int)) (by rw[Zjw];unfold S.u32m;omega) (Yb _)) (by decide) ?_
 show S.WS I 55 lk false _ [x,y,t,(m:Int),(n:Int),sh,H+m+4,H+m+4+m+1,(j:Int),g,o] s2 _ _ _
 have yat:∀s g o,S.Yl I 55 lk [x,y,t,(m:Int),(n:Int),sh,H+m+4,H+m+4+m+1,(j:Int),g,o] s S.eAt (H+m+4+j) 3:=λ s g o=>(Zn (op:=1) (by decide) (l6 s _ _ _) (l8 s _ _ _)).to_ (by rw[Zat];unfold S.u32m;omega) (Yb _)
 have yatn:=λ s g o=>(Zn (op:=1) (by decide) (yat s g o) (l4 s (j:Int) g o)).to_ (y:=H+m+4+j+n) (by rw[Zat];unfold S.u32m;omega) (Yb _)
 have m1:s2.mem (H+m+4+j+n)=un:=by
  have:=hD2.r (j+n) (by omega);rw[show H+m+4+((j+n:Nat):Int)=H+m+4+j+n by omega] at this;rw[this,hun]
 have m2:s2.mem (H+m+4+j+n-1)=um:=by
  have:=hD2.r (j+n1) (by omega);rw[show H+m+4+((j+n1:Nat):Int)=H+m+4+j+n-1 by omega] at this;rw[this,hum]
 have m3:s2.mem (H+m+4+m+1+n-1)=w:=by
  have:=hD2.v n1 (by omega);rw[show H+m+4+m+1+((n1:Nat):Int)=H+m+4+m+1+n-1 by omega] at this;rw[this,hw2]
 have y1:=Zli (n:=0) (p:=H+m+4+j+n) (yatn s2 g o) (by unfold S.u32m;omega) (Za7 (hdat _ (by omega) (by omega)));have y2:=Zli (n:=-1) (p:=H+m+4+j+n-1) (yatn s2 g o) (by unfold S.u32m;omega) (Za7 (hdat _ (by omega) (by omega)));have y3:=Zli (n:=-1) (p:=H+m+4+m+1+n-1) ((Zn (op:=1) (by decide) (l7 s2 (j:Int) g o) (l4 s2 (j:Int) g o)).to_ (y:=H+m+4+m+1+n) (by rw[Zat];unfold S.u32m;omega) (Yb _)) (by unfold S.u32m;omega) (Za7 (hdat _ (by omega) (by omega)));rw[m1] at y1;rw[m2] at y2;rw[m3] at y3;refine Zo ((Z38 (op:=5) (λ e=>by omega) (Zn (op:=8) (by decide) (Zn (op:=10) (by decide) y1 (Zp 16)) y2) y3).to_ (y:=(un*65536+um)/w) (by rw[Z40 bun,Z0c bun bum,Z7j]) (Yb _)) (by decide) ?_
 show S.WS I 55 lk false _ [x,y,t,(m:Int),(n:Int),sh,H+m+4,H+m+4+m+1,(j:Int),(un*65536+um)/w,o] s2 _ _ _
 have cont:∀(C3:Nat)(Q:List Int->S.Vw->Nat->Prop),C3<=C2+60->(∀s3 g3 o3 acc3 qs3 C4,C4<=C2+W->S.DvS st s3 H m n j qs3 acc3 vd->j+qs3.length=m-n+1->qs3.length=qs.length+1->acc3.length=m+1->S.Digs acc3->S.Digs qs3->X=S.dval acc3+S.dval qs3*65536^j*V->S.dval acc3<V*65536^j ->
  S.WS I 55 lk false [] [x,y,t,(m:Int),(n:Int),sh,H+m+4,H+m+4+m+1,(j:Int),g3,o3] s3 (C4-3) Q R) ->
  S.WS I 55 lk false [S.sAs 10 (S.eF S.kNTake [S.eAt,S.eL 7,S.eL 4,S.eL 9]),S.sWh (S.eL 10) [S.sAs 9 (S.eSub (S.eL 9) (S.eC 1)),S.sWhen (S.eF S.kNBack [S.eAt,S.eL 7,S.eL 4]) [S.sAs 10 (S.eC 0)]],S.sPut (S.eAdd S.eH (S.eL 8)) 2 (S.eDg (S.eL 9))]
   [x,y,t,(m:Int),(n:Int),sh,H+m+4,H+m+4+m+1,(j:Int),gg,o] s2 C3 Q R:=λ C3 Q hC3 hend=>by
  obtain⟨r1,r2⟩:=Z0f hN hD2 hla2 hlv hj hdat;have hreal:=Zss hN r1 r2 dwin dvt lwin lvt hn (by omega) ⟨kn1,kn2⟩;refine Z42 (N:=100+90*n) (T:=λ s3 k3=>∃win b,S.RwS s2 s3 (H+m+4+j) win/\S.Digs win/\win.length=n+1/\(b=0\/b=1)/\s3.reg 4=b/\S.dval win=U-gg*V+b*65536^(n+1)) (d:=23)
   (Za (yat s2 _ _) (Za (l7 s2 _ _ _) (Za (l4 s2 _ _ _) (Za (l9 s2 _ _ _) Zh)))) (by decide) (by simp) (λ st1 hs1=>?_) (by decide) (λ s3 k3 hT3=>?_)
  .exact(hreal st1 hs1).mono λ _ o k hh=>by
    obtain⟨s,win,b,e,q1,q2,q3,q4,q5,q6,q7⟩:=hh;exact⟨s,e,q7,win,b,q1,q2,q3,q4,q5,by rw[q6,hUe,hV]⟩
  obtain⟨win,b,q1,q2,q3,q4,q5,q6⟩:=hT3;rw[q5]
  show S.WS I 55 lk false _ [x,y,t,(m:Int),(n:Int),sh,H+m+4,H+m+4+m+1,(j:Int),gg,b] s3 _ _ _
  obtain⟨w1,w2,w3,w4⟩:=Zp8 hla2 hj q3;have hw3:=Zp7 hD2 q1 q3 hj hla2 (by omega);have db:=Zex (Zap da2 j) (Zex q2 (Zbd da2 (j+n+1)));refine Z2n hN (by decide) hw3 w1 hlv db dv hj hn (by omega) hV hVp hU0 ⟨kn1,kn2⟩ (by
   rw[w4];rcases q4 with e|e
   .exact .inl ⟨e,by rw[q6,e];omega⟩
   .exact .inr ⟨e,by rw[q6,e,Int.one_mul]⟩) kn3 kn4 hdat λ g' s' acc' hg' hD' hla' da' ht' hd' hv' hn' hlt'=>?_
  have hr26:s'.reg 26=H:=by rw[hD'.reg 26 (by decide)];exact h26
  have hdj:=hdat (H+2+j) (by omega) (by omega);refine Zb3 (x:=4*g') (p:=H+2+j) ((Zn (op:=1) (by decide) ((Zxj (n:=26) (by decide)).to_ hr26 (Yb _)) (l8 s' _ _ _)).to_ (y:=H+j) (by rw[Zat];unfold S.u32m;omega) (Yb _)) ((Zn (op:=10) (by decide) (Zn (op:=7) (by decide) (l9 s' _ _ _) (Zp 65535)) (Zp 2)).to_ (by rw[Zfj ⟨by omega,by omega⟩];omega) (Yb _)) (by decide) (by decide) (by unfold S.u32m;omega) hdj.2 ?_;have hD4:=Z2m hD' g' (by omega);have e1:acc'=acc2.take j++((acc'.drop j).take (n+1)++acc2.drop (j+n+1)):=by
   rw[w2] at ht';rw[w3] at hd';rw[<- ht',<- hd',show j+n+1=j+(n+1) by omega,<- List.drop_drop,Yay,Yay]
  have d1:=congrArg S.dval e1;have l1:(acc2.take j).length=j:=by rw[Yq];omega
  have l2:((acc'.drop j).take (n+1)).length=n+1:=by rw[Yq,List.length_drop];omega
  have e3:acc2.drop (j+n+1)=(acc2.drop j).drop (n+1):=by rw[List.drop_drop,show j+n+1=j+(n+1) by omega]
  rw[Zf9,Zf9,l1,l2,hv',e3,wd2,Int.mul_zero,Int.add_zero] at d1;have pj:(0:Int)<65536^j:=Yar (by decide);refine(hend _ g' 0 acc' (g'::qs) (C2+W) (Yb _) hD4 (by rw[Yi];omega) rfl hla' da' (λ d hd=>(List.mem_cons.1 hd).elim (λ e=>by rw[e];exact hg') (dq d)) ?_ ?_).more (by omega)
  .rw[hX2,wd1,d1]
   show _=_+(g'+65536*S.dval qs)*65536^j*V
   rw[Int.pow_succ];generalize (65536:Int)^j=Bj at *;generalize S.dval qs=dqs at *;generalize S.dval (acc2.take j)=lo at *;clear hD2 hD' hD4 hw3 q1 q6 hdj hr26 e1 e3
   grind
  .rw[d1]
   have h1:65536^j*(U-g'*V)<=65536^j*(V-1):=Int.mul_le_mul_of_nonneg_left (by omega) (by omega);have h2:(65536:Int)^j*(V-1)=V*65536^j-65536^j:=by
    generalize (65536:Int)^j=Bj
    grind
   omega
 have yg:=Zn (op:=14) (by decide) (Zp 65535) (l9 s2 (j:Int) ((un*65536+um)/w) o);rw[Zcg,show(65535%4294967296:Int)=65535 from rfl] at yg;refine Zv yg (by decide) (λ hz=>?_) (λ hnz=>?_)
 .have hle:¬65535<(un*65536+um)/w:=λ q=>by rw[if_pos q] at hz;cases hz
  rw[if_neg hle] at hgg;rw[<- hgg];refine cont _ _ (by omega) λ s3 g3 o3 acc3 qs3 C4 c1 c2 c3 c4 c5 c6 c7 c8 c9=>?_
  refine Z3 (k2:=j) (by omega) ⟨j,g3,o3,qs3,acc3,rfl,rfl,c2,c3,c5,c6,c7,c8,c9,?_⟩;rw[c4,Yci,Nat.one_mul];omega
 .have hlt3:65535<(un*65536+um)/w:=Y_c λ q=>hnz (if_neg q)
  rw[if_pos hlt3] at hgg;refine Zo (Zp 65535) (by decide) (Zbj 3 ?_)
  show S.WS I 55 lk false _ [x,y,t,(m:Int),(n:Int),sh,H+m+4,H+m+4+m+1,(j:Int),65535,o] s2 _ _ _
  rw[<- hgg];refine cont _ _ (by omega) λ s3 g3 o3 acc3 qs3 C4 c1 c2 c3 c4 c5 c6 c7 c8 c9=>?_
  refine Z3 (k2:=j) (by omega) ⟨j,g3,o3,qs3,acc3,rfl,rfl,c2,c3,c5,c6,c7,c8,c9,?_⟩;rw[c4,Yci,Nat.one_mul];omega
end
end
section
theorem Z6b {env:List Int}(h:(env.length:Int)=11):∃a b c d e f g i j k l,env=[a,b,c,d,e,f,g,i,j,k,l]:=by
 obtain⟨a,r,rfl⟩:∃a r,env=a::r:=by cases env with|nil=>simp at h|cons a r=>exact⟨a,r,rfl⟩
 obtain⟨b,r,rfl⟩:∃a r',r=a::r':=by cases r with|nil=>simp at h|cons a r=>exact⟨a,r,rfl⟩
 obtain⟨c,r,rfl⟩:∃a r',r=a::r':=by cases r with|nil=>simp at h|cons a r=>exact⟨a,r,rfl⟩
 obtain⟨d,e,f,g,i,j,k,l,rfl⟩:=Z6w (env:=r) (by simp only[Yi] at h;omega);exact⟨a,b,c,d,e,f,g,i,j,k,l,rfl⟩
theorem Zrc {a b:Nat}(h:a<=b):(65536:Int)^a<=65536^b:=by
 obtain⟨c,rfl⟩:=Nat.le.dest h;rw[Int.pow_add];have h1:(0:Int)<65536^a:=Yar (by decide);have h2:(0:Int)<65536^c:=Yar (by decide);have:=Int.mul_le_mul_of_nonneg_left (show 1<=(65536:Int)^c by omega) (Ya3 h1);omega
section
variable {I:S.Img}(hN:S.NSegs I)
include hN
theorem Zv8 {dep lk:Int}{env:List Int}{st s:S.Vw}{C:Nat}{Q:List Int->S.Vw->Nat->Prop}{R:S.BO->Nat->Prop}{r:List S.BS}{H neg val:Int}{acc:List Int}{M N:Nat}{en el:S.BE}{K:Nat}(hneg:neg=0\/neg=1)(hs:S.HpS st s H acc)(h26:st.reg 26=H)(hd:S.Digs acc)(hl:acc.length<=1000)(hdat:∀j:Nat,j<acc.length+2->S.Dat I (H+j))(hv:S.dval acc=val)(hM:acc.length+2<=M)
 (hy:S.Yls I dep lk env s [en,el] [neg,(acc.length:Int)] K) (hde:S.dEs [en,el]<=20) (hdep:19<=dep) (hC:C+K+(300+60*acc.length)+14<=N) (hR:∀o k,S.NumR I st H neg val M N o k->R o k):S.WS I dep lk false (S.sVal (S.eF S.kNFin [en,el])::r) env s C Q R:=by
 have hat:=Z0g (I:=I) hs h26 hd hl hdat;refine Zlj (T:=S.FinR s H neg acc (300+60*acc.length)) hy hde (by simp) (Zoe hN hneg hat) hdep λ o k hT=>?_
 have hT0:=hT;obtain⟨st',rfl,hk,_⟩:=hT;intro c hc;exact hR _ _ ⟨s,acc,hat,hv,λ a ha=>hs.out_ a (by omega),hs.reg,hs.inp,hs.out,Zi5 hT0 (by omega)⟩
theorem Z2j {lk:Int}{s:S.Vw}{C:Nat}{Q:List Int->S.Vw->Nat->Prop}{R:S.BO->Nat->Prop}{H x y t g o v P:Int}{m n k:Nat}{acc:List Int}{rest:List S.BS}(h26:s.reg 26=H)(hr:∀i:Nat,i<m+1->s.mem (H+m+4+i)=acc.getD i 0)(hla:acc.length=m+1)(da:S.Digs acc)(hnm:n<=m)(hm:m<=900)(hk:k<=15)(hP:P=2^k)(hlt:S.dval acc<65536^n)(hdat:∀a,H<=a->a<H+2*m+n+6->S.Dat I a)
 (hrest:∀g s2 racc,S.HpS s s2 H racc->racc.length=n->S.Digs racc->P*S.dval racc+acc.getD 0 0%P=S.dval acc->S.WS I 55 lk false rest [x,y,t,(m:Int),(n:Int),(k:Int),H+m+4,v,(n:Int),g,o] s2 (C+10+60*n) Q R) :
 S.WS I 55 lk false (S.sWh (S.eLt (S.eL 8) (S.eL 4))
 [S.sAs 9 (S.eB 8 (S.eShl (S.eM (S.eAdd S.eAt (S.eC 1)) 0) 16) (S.eM S.eAt 0)),
  S.sPut (S.eAdd S.eH (S.eL 8)) 2 (S.eDg (S.eB 11 (S.eL 9) (S.eL 5))),
  S.sInc 8]::rest) [x,y,t,(m:Int),(n:Int),(k:Int),H+m+4,v,0,g,o] s C Q R:=by
 have hsz:=hN.ok.size2;have hA0:=(hdat H (Y7 _) (by omega)).1;have hAl:=(hdat (H+2*m+n+5) (by omega) (by omega)).2.1;have hPb:=Zku hk;rw[<- hP] at hPb;have hzn:acc.getD n 0=0:=by
  have h1:=Zdc da hlt;have h2:=Zdc da (n:=n+1) (Int.lt_of_lt_of_le hlt (Zrc (by omega)));rw[S.psum] at h2;have h3:=Zz da n;have hp:(0:Int)<65536^n:=Yar (by decide);refine Y_c λ c=>?_
  have:=Int.mul_le_mul_of_nonneg_right (show 1<=acc.getD n 0 by omega) (Ya3 hp);omega
 refine Zfe (by decide) (λ env s2 C2 q=>∃(i:Nat)(g:Int)(racc:List Int),env=[x,y,t,(m:Int),(n:Int),(k:Int),H+m+4,v,(i:Int),g,o]/\q=n-i/\i<=n/\racc.length=i/\S.Digs racc/\S.HpS s s2 H racc/\P*S.dval racc+acc.getD 0 0%P=S.psum acc i+(acc.getD i 0%P)*65536^i/\C2<=C+60*i) (k0:=n)
  ⟨0,g,[],rfl,rfl,Nat.zero_le _,rfl,(λ d hd=>by cases hd),Zl9 (.refl _),by show P*0+_=0+_*1;simp,by omega⟩ ?_
 rintro env s2 C2 q ⟨i,g,racc,rfl,rfl,hi,hlr,hdr,hS,hinv,hC⟩;have l8:∀s i g,S.Yl I 55 lk [x,y,t,(m:Int),(n:Int),(k:Int),H+m+4,v,i,g,o] s (S.eL 8) i 1:=λ s i g=>Zs 8
 have l4:∀s i g,S.Yl I 55 lk [x,y,t,(m:Int),(n:Int),(k:Int),H+m+4,v,i,g,o] s (S.eL 4) n 1:=λ s i g=>Zs 4
 have l5:∀s i g,S.Yl I 55 lk [x,y,t,(m:Int),(n:Int),(k:Int),H+m+4,v,i,g,o] s (S.eL 5) k 1:=λ s i g=>Zs 5
 have l6:∀s i g,S.Yl I 55 lk [x,y,t,(m:Int),(n:Int),(k:Int),H+m+4,v,i,g,o] s (S.eL 6) (H+m+4) 1:=λ s i g=>Zs 6
 have l9:∀s i g,S.Yl I 55 lk [x,y,t,(m:Int),(n:Int),(k:Int),H+m+4,v,i,g,o] s (S.eL 9) g 1:=λ s i g=>Zs 9
 have y1:=Zn (op:=14) (by decide) (l8 s2 (i:Int) g) (l4 s2 (i:Int) g);rw[Zcg] at y1;refine⟨_,_,y1,λ hz=>?_,λ hnz=>?_⟩
 .have hiE:i=n:=Y_c λ q=>by rw[if_pos (by omega)] at hz;cases hz
  subst hiE;refine(hrest g s2 racc hS hlr hdr ?_).more (by omega);rw[hinv,hzn,Zdc da hlt];simp
 .have hlt2:i<n:=Y_c λ q=>hnz (if_neg (by omega))
  have m1:s2.mem (H+m+4+i+1)=acc.getD (i+1) 0:=by
   rw[hS.out_ _ (by omega)];have:=hr (i+1) (by omega);rw[show H+m+4+((i+1:Nat):Int)=H+m+4+i+1 by omega] at this;exact this
  have m0:s2.mem (H+m+4+i)=acc.getD i 0:=by
   rw[hS.out_ _ (by omega)];exact hr i (by omega)
  have ba:=Zz da (i+1);have bb:=Zz da i;have yat:=(Zn (op:=1) (by decide) (l6 s2 (i:Int) g) (l8 s2 (i:Int) g)).to_ (y:=H+m+4+i) (by rw[Zat];unfold S.u32m;omega) (Yb _);have yat1:=(Zn (op:=1) (by decide) yat (Zp 1)).to_ (y:=H+m+4+i+1) (by rw[Zat];unfold S.u32m;omega) (Yb _);have ya:=Zli (n:=0) (p:=H+m+4+i+1) yat1 (by unfold S.u32m;omega) (Za7 (hdat _ (by omega) (by omega)));have yb:=Zli (n:=0) (p:=H+m+4+i) yat (by unfold S.u32m;omega) (Za7 (hdat _ (by omega) (by omega)));rw[m1] at ya;rw[m0] at yb;have hdig:=Z2l hk hP ba bb;obtain⟨a,ha⟩:=Yx (acc.getD (i+1) 0);obtain⟨b,hb⟩:=Yx (acc.getD i 0);rw[<- ha] at ba ya hdig;rw[<- hb] at bb yb hdig;refine Zo ((Zn (op:=8) (by decide) (Zn (op:=10) (by decide) ya (Zp 16)) yb).to_ (y:=a*65536+b) (by rw[Z40 ba,Z0c ba bb]) (Yb _)) (by decide) ?_
  show S.WS I 55 lk false _ [x,y,t,(m:Int),(n:Int),(k:Int),H+m+4,v,(i:Int),a*65536+b,o] s2 _ _ _
  have hr26:s2.reg 26=H:=by rw[hS.reg 26 (by decide)];exact h26
  obtain⟨d,hd⟩:=Yx ((a*65536+b)/P);rw[<- hd] at hdig;have hd0:0<=d:=by rw[hd];exact Int.ediv_nonneg (by omega) (by omega)
  have hd1:d<4294967296:=by
   rw[hd];exact Int.lt_of_le_of_lt (Int.ediv_le_self _ (by omega)) (by omega)
  have hdi:=hdat (H+2+i) (by omega) (by omega);refine Zb3 (x:=4*(d%65536)) (p:=H+2+i) ((Zn (op:=1) (by decide) ((Zxj (n:=26) (by decide)).to_ hr26 (Yb _)) (l8 s2 _ _)).to_ (y:=H+i) (by rw[Zat];unfold S.u32m;omega) (Yb _)) ((Zn (op:=10) (by decide) (Zn (op:=7) (by decide) (Zn (op:=11) (by decide) (l9 s2 _ _) (l5 s2 _ _)) (Zp 65535)) (Zp 2)).to_ (by rw[Z7k hk hP,<- hd,Zfj ⟨hd0,hd1⟩]) (Yb _)) (by decide) (by decide) (by unfold S.u32m;omega) hdi.2 ?_;have hS2:=Zgb hS (d%65536);rw[hlr] at hS2;refine Zo ((Zn (op:=1) (by decide) (l8 _ _ _) (Zp 1)).to_ (y:=((i+1:Nat):Int)) (by rw[Zat];unfold S.u32m;omega) (Yb _)) (by decide) ?_
  show S.WS I 55 lk false _ [x,y,t,(m:Int),(n:Int),(k:Int),H+m+4,v,((i+1:Nat):Int),a*65536+b,o] _ _ _ _
  refine Z3 (k2:=n-(i+1)) (by omega) ⟨i+1,_,racc++[d%65536],rfl,rfl,by omega,by rw[List.length_append,hlr];rfl,Zbf hdr ⟨by omega,by omega⟩,hS2,?_,by omega⟩;rw[Zbe,hlr,S.psum,<- ha,<- hb,Int.pow_succ];rw[<- hb] at hinv;generalize (65536:Int)^i=Bi at *;generalize d%65536=dd at *;generalize a%P=ap at *;generalize b%P=bp at *;generalize S.dval racc=D at *;generalize S.psum acc i=Pa at *;generalize acc.getD 0 0%P=a0 at *;clear hS hS2 ya yb yat yat1 y1 hdi m0 m1 hr26
  grind
end
theorem Zv9 {I:S.Img}{st s:S.Vw}{H neg val:Int}{M M' N k:Nat}{o:S.BO}(hm:∀a,a<H\/H+M'<=a->s.mem a=st.mem a)(hr:∀j,¬(4<=j/\j<=7)->s.reg j=st.reg j)(hi:s.inp=st.inp)(ho:s.out=st.out)(hM:M<=M')(h:S.NumR I s H neg val M N o k):S.NumR I st H neg val M' N o k:=by
 obtain⟨s2,ds,h1,h2,h3,h4,h5,h6,h7⟩:=h;exact⟨s2,ds,h1,h2,λ a ha=>(h3 a (by omega)).trans (hm a ha),λ j hj=>(h4 j hj).trans (hr j hj),h5.trans hi,h6.trans ho,h7⟩
theorem Zyy {I:S.Img}{mem:Int->Int}{H:Int}:S.NumIn I mem H 0 0 [0,0]:=⟨⟨by decide,.inl rfl,(λ d hd=>by simp at hd;rw[hd];decide),by simp,.inl ⟨rfl,rfl,rfl⟩⟩,λ p e=>by omega⟩
theorem Zwa {X Y q r:Int}(hY:0<Y)(h:X=r+q*Y)(h0:0<=r)(h1:r<Y):X/Y=q/\X%Y=r:=by
 have e:X=r+Y*q:=by rw[h,Int.mul_comm]
 constructor
 .rw[e,Int.add_mul_ediv_left _ _ (by omega),Int.ediv_eq_zero_of_lt h0 h1,Int.zero_add]
 .rw[e,Int.add_mul_emod_self_left,Int.emod_eq_of_lt h0 h1]
end
section
def S.al (t nv nu X Y:Int):Int:=if t=0 then S.signed (if nv=nu then 0 else 1) (X/Y) else S.signed nv (X%Y)
theorem Zi3 {I:S.Img}{st s:S.Vw}{H v neg:Int}{m n j:Nat}{qs acc vd ds:List Int}(h:S.NumIn I st.mem H v neg ds)(hs:S.DvS st s H m n j qs acc vd):S.NumAt I s.mem v neg ds:=h.1.same λ p e j hj=>hs.out_ _ (by have:=h.2 p e;omega)
theorem Zyz {y:List Int}{n n1 k:Nat}{P:Int}{vd:List Int}(dy:S.Digs y)(hT:S.Top y n)(hn:n=n1+1)(hk:k<=15)(hP:P=2^k)(h1:32768<=y.getD n1 0*P)(h2:y.getD n1 0*P<65536)(dv:S.Digs vd)(hl:vd.length=n+1)(hv:S.dval vd=S.dval y*P) :
 S.dval (vd.take n)=S.dval y*P/\S.dval y*P<65536^n/\32768<=vd.getD n1 0:=by
 have hy:S.dval y=S.psum y n1+y.getD n1 0*65536^n1:=by
  rw[Zda hT,<- Zam (x:=y.take n) (n:=n1+1) (by rw[Yq];omega),S.psum,Zaq (by omega)]
  congr 1
  exact Zdb _ λ j hj=>Zaq (by omega)
 have hb:=Zi4 dy n1;have hp:(0:Int)<65536^n1:=Yar (by decide);have hPb:=Zku hk;rw[<- hP] at hPb;have hPK:(65536:Int)=P*2^(16-k):=by rw[hP,<- Int.pow_add,show k+(16-k)=16 by omega];rfl
 generalize (2:Int)^(16-k)=K at hPK;obtain⟨g,hg⟩:=Yx (y.getD n1 0);rw[<- hg] at hy h1 h2;have hgK:(g+1)*P<=65536:=by
  have h3:g<K:=by
   refine Y_c λ c=>?_
   have:=Int.mul_le_mul_of_nonneg_right (show K<=g by omega) (show 0<=P by omega);have e:K*P=65536:=by rw[hPK,Int.mul_comm]
   omega
  have h4:=Int.mul_le_mul_of_nonneg_right (show g+1<=K by omega) (show 0<=P by omega);have e:K*P=65536:=by rw[hPK,Int.mul_comm]
  omega
 obtain⟨T,hTe⟩:=Yx ((65536:Int)^n1);have hpow:(65536:Int)^n=65536*T:=by rw[hn,Int.pow_succ,<- hTe,Int.mul_comm]
 rw[<- hTe] at hy hb hp;have hlt:S.dval y*P<65536^n:=by
  have h3:S.dval y+1<=(g+1)*T:=by
   have e:(g+1)*T=g*T+T:=by grind
   omega
  have h4:=Int.mul_le_mul_of_nonneg_right h3 (show 0<=P by omega);have e1:(S.dval y+1)*P=S.dval y*P+P:=by grind
  have e2:(g+1)*T*P=(g+1)*P*T:=by grind
  have h5:=Int.mul_le_mul_of_nonneg_right hgK (show 0<=T by omega);omega
 have hps:=Zdc dv (n:=n) (by rw[hv];exact hlt);refine⟨?_,hlt,?_⟩
 .rw[<- Zam (x:=vd.take n) (n:=n) (by rw[Yq];omega),<- hv,<- hps]
  exact Zdb _ λ j hj=>Zaq hj
 .rw[hn,S.psum,<- hTe,hv] at hps
  have hb2:=Zi4 dv n1;rw[<- hTe] at hb2;have h3:32768*T<=S.dval y*P:=by
   have h4:=Int.mul_le_mul_of_nonneg_right h1 (show 0<=T by omega);have h5:=Int.mul_le_mul_of_nonneg_right (show g*T<=S.dval y by omega) (show 0<=P by omega);have e:g*P*T=g*T*P:=by grind
   omega
  refine Y_c λ c=>?_
  have h4:=Int.mul_le_mul_of_nonneg_right (show vd.getD n1 0<=32767 by omega) (show 0<=T by omega);omega
section
variable {I:S.Img}(hN:S.NSegs I)
include hN
theorem Zwb {st:S.Vw}{H v u nv nu t:Int}{x y:List Int}(hx:S.NumIn I st.mem H v nv x)(hy:S.NumIn I st.mem H u nu y)(ht:t=0\/t=1)(h26:st.reg 26=H)(hY:0<S.dval y)(hdat:∀a,H<=a->a<H+2*x.length+y.length+7->S.Dat I a)(hfx:x.length<=900)(hfy:y.length<=900){W:Nat}(hW:W=850+250*y.length) :
 ∀st1,S.Sim st st1->S.Real I S.kNDiv false (st1.args [v,u,t]) 81 (λ _ o k=>S.ao I st H (S.al t nv nu (S.dval x) (S.dval y)) (2*x.length+y.length+7) (5000+3000*(x.length+y.length)+(x.length+1)*W) o k):=λ st1 hs1=>by
 obtain⟨iF,hF⟩:=hN.div;obtain⟨XL,hXL⟩:∃L,L=x.length:=⟨_,rfl⟩
 obtain⟨YL,hYL⟩:∃L,L=y.length:=⟨_,rfl⟩
 obtain⟨NN,hNN⟩:∃N,N=5000+3000*(XL+YL)+(XL+1)*W:=⟨_,rfl⟩
 obtain⟨z,hz⟩:=Yx (S.al t nv nu (S.dval x) (S.dval y));rw[<- hXL,<- hYL] at hdat⊢;rw[<- hXL] at hfx;rw[<- hYL] at hfy hW;rw[<- hNN,<- hz];have hr:=Zcw hN.ok S.rNDiv (by kernel_rfl) hF (dep:=55) (by decide) (st1.args [v,u,t]) (S.ao I st H z (2*XL+YL+7) NN) λ lk env hl hp=>?_
 .exact hr
 obtain⟨e0,e1,e2,e3,e4,e5,e6,e7,e8,e9,e10,rfl⟩:=Z6b hl;have h0:e0=v:=hp 0 (show(0:Int)<3 by decide);have h1:e1=u:=hp 1 (show(1:Int)<3 by decide);have h2:e2=t:=hp 2 (show(2:Int)<3 by decide);subst h0 h1 h2;have hs:S.Sim st (st1.args [e0,e1,e2]):=hs1.args (by simp);obtain⟨s1,hs1e⟩:∃s,s=st1.args [e0,e1,e2]:=⟨_,rfl⟩
 rw[<- hs1e] at hs⊢;have hm:s1.mem=st.mem:=hs.mem;have hx':S.NumIn I s1.mem H e0 nv x:=by rw[hm];exact hx
 have hy':S.NumIn I s1.mem H e1 nu y:=by rw[hm];exact hy
 have h26':s1.reg 26=H:=by rw[hs.reg 26 (by decide)];exact h26
 have dx:S.Digs x:=hx.1.dig;have dy:S.Digs y:=hy.1.dig;have sx:=hx.1.sg;have sy:=hy.1.sg;have X0:=Zk dx;have hsz:=hN.ok.size2;have hA0:=(hdat H (Y7 _) (by omega)).1;have hAl:=(hdat (H+2*XL+YL+6) (by omega) (by omega)).2.1
 show S.WS I 55 lk false (S.sWhen (S.eNot (S.eF S.kNCmp [S.eL 0,S.eL 1])) [S.sWhen (S.eL 2) [S.sVal (S.eF S.kNAdd [S.eL 0,S.eC 0,S.eF S.kNNeg [S.eL 0]])],S.sVal (S.eC 0)]::_) [e0,e1,e2,e3,e4,e5,e6,e7,e8,e9,e10] s1 8 _ _
 refine Zv (Zow (Zd1 (Za (Zs 0) (Za (Zs 1) Zh)) (by simp) (Zob hN hx'.1 hy'.1) (by decide)) (Zp 0)) (by decide) (λ hc=>?_) (λ hc=>?_)
 rotate_left
 .-- the first one is less
  have hlt:S.dval x<S.dval y:=by
   refine Y_c λ q=>hc (if_neg ?_)
   unfold S.cmpV;rw[if_neg q]
   split <;> decide
  refine Zv (x:=e2) (Zs 2) (by decide) (λ ht0=>?_) (λ ht1=>?_)
  .refine Zha (Zp 0) (by decide) λ st2 c2 h2 hc2=>?_
   have hz0:z=0:=by
    rw[hz,S.al,if_pos ht0,Int.ediv_eq_zero_of_lt X0 hlt];unfold S.signed
    split <;> rfl
   refine⟨0,0,.inl rfl,Y7 _,by rw[hz0];rfl,st,[],⟨h26,(λ d hd=>by cases hd),by simp,λ j hj=>hdat _ (by omega) (by simp at hj;omega),λ i hi=>absurd hi (Nat.not_lt_zero _)⟩,rfl,λ _ _=>rfl,λ _ _=>rfl,rfl,rfl,_,rfl,?_,.inl ⟨by show(0:Int)<536870912+0;decide,Zj _ _ _,?_⟩⟩
   .rw[hNN];omega
   .exact((hs.trans h2).set4 _)
  .have e21:e2=1:=by
    rcases ht with e|e
    .exact absurd e ht1
    .exact e
   refine Zrd hN (d:=55) (N:=1000+800*max XL 2) (M:=max XL 2+3) (val:=S.dval x) sx X0 ?_ hs (Za (Zs 0) (Za (Zp 0) (Za (Zd1 (Za (Zs 0) Zh) (by simp) (Zb4 hN hx'.1) (by decide)) Zh))) (by decide) (by simp) (λ st3 hs3=>?_) (by decide) (by omega) (by rw[hNN];omega)
   .rw[hz,S.al,if_neg (by omega),Int.emod_eq_of_lt X0 hlt]
   .have hadd:=Zog hN hx' (Zyy (I:=I) (mem:=s1.mem) (H:=H)) sx h26' (λ j hj=>hdat _ (by omega) (by rw[<- hXL] at hj;simp at hj;omega)) (by rw[<- hXL];simp;omega) st3 hs3
    rw[<- hXL] at hadd;have ev:S.dval x+S.dval [0,0]=S.dval x:=by show S.dval x+0=_;omega
    rw[ev] at hadd;exact hadd
 have hge:S.dval y<=S.dval x:=by
  refine Y_c λ q=>?_
  rw[if_pos (by unfold S.cmpV;rw[if_pos (by omega)];rfl)] at hc
  cases hc
 obtain⟨m,hTx⟩:=Z0d x;obtain⟨n,hTy⟩:=Z0d y;have bx:=Z0e dx hTx;have by_:=Z0e dy hTy;have hmX:m<=XL:=by rw[hXL];exact hTx.1
 have hnY:n<=YL:=by rw[hYL];exact hTy.1
 have hn0:0<n:=by
  refine Y_c λ q=>?_
  have:n=0:=by omega
  rw[this] at by_;have h1:S.dval y<1:=by have:=by_.1;simpa using this
  omega
 obtain⟨n1,hn1⟩:∃n1,n=n1+1:=⟨n-1,by omega⟩
 have hnm:n<=m:=by
  refine Y_c λ q=>?_
  have h1:=by_.2 hn0;have h2:=Zrc (show m<=n-1 by omega);omega
 refine Zo (Zd1 (Za (Zs 0) Zh) (by simp) (Zoc hN hx'.1 hTx) (by decide)) (by decide) ?_
 show S.WS I 55 lk false _ [e0,e1,e2,(m:Int),e4,e5,e6,e7,e8,e9,e10] s1 _ _ _
 refine Zo (Zd1 (Za (Zs 1) Zh) (by simp) (Zoc hN hy'.1 hTy) (by decide)) (by decide) ?_
 show S.WS I 55 lk false _ [e0,e1,e2,(m:Int),(n:Int),e5,e6,e7,e8,e9,e10] s1 _ _ _
 refine Zo (Zp 0) (by decide) ?_
 show S.WS I 55 lk false _ [e0,e1,e2,(m:Int),(n:Int),0,e6,e7,e8,e9,e10] s1 _ _ _
 have bg:=Zz dy n1;have hg0:y.getD n1 0≠0:=by
  have:=hTy.2.2.resolve_left (by omega);rw[show n-1=n1 by omega] at this;exact this
 have ydg:=Zd1 (I:=I) (d:=34) (dep:=55) (lk:=lk) (st:=s1) (env:=[e0,e1,e2,(m:Int),(n:Int),0,e6,e7,e8,e9,e10]) (Za (Zs 1) (Za ((Zn (op:=2) (by decide) (Zs 4) (Zp 1)).to_ (y:=(n1:Int)) (by
  show S.alu 2 (n:Int) _=_
  rw[Zjw];unfold S.u32m;omega) (Yb _)) Zh)) (by simp) (Za9 hN hy'.1 (i:=(n1:Int)) ⟨by omega,by omega⟩) (by decide)
 rw[Int.toNat_natCast] at ydg;refine Zo ydg (by decide) ?_
 show S.WS I 55 lk false _ [e0,e1,e2,(m:Int),(n:Int),0,e6,e7,e8,y.getD n1 0,e10] s1 _ _ _
 obtain⟨g,hg⟩:=Yx (y.getD n1 0);rw[<- hg] at bg hg0⊢;clear ydg;refine Z2h hN ⟨by omega,bg.2⟩ λ k hk hk1 hk2=>?_
 obtain⟨P,hP⟩:∃P:Int,P=2^k:=⟨_,rfl⟩
 rw[<- hP] at hk1 hk2;have hPb:=Zku hk;rw[<- hP] at hPb;refine Zo ((Zn (op:=1) (by decide) (Zn (op:=1) (by decide) ((Zxj (n:=26) (by decide)).to_ h26' (Yb _)) (Zs 3)) (Zp 4)).to_ (y:=H+m+4) (by
  show S.alu 1 (S.alu 1 H (m:Int)) _=_
  rw[Zat,Zat];unfold S.u32m;omega) (Yb _)) (by decide) ?_
 show S.WS I 55 lk false _ [e0,e1,e2,(m:Int),(n:Int),(k:Int),H+m+4,e7,e8,g,e10] s1 _ _ _
 refine Zo ((Zn (op:=1) (by decide) (Zn (op:=1) (by decide) (Zs 6) (Zs 3)) (Zp 1)).to_ (y:=H+m+4+m+1) (by
  show S.alu 1 (S.alu 1 (H+m+4) (m:Int)) _=_
  rw[Zat,Zat];unfold S.u32m;omega) (Yb _)) (by decide) ?_
 show S.WS I 55 lk false _ [e0,e1,e2,(m:Int),(n:Int),(k:Int),H+m+4,H+m+4+m+1,e8,g,e10] s1 _ _ _
 have hxA:S.NumIn I s1.mem (H+m+4) e0 nv x:=⟨hx'.1,λ p e=>by have:=hx'.2 p e;omega⟩
 have hyA:S.NumIn I s1.mem (H+m+4+m+1) e1 nu y:=⟨hy'.1,λ p e=>by have:=hy'.2 p e;omega⟩
 refine Z1p (d:=55) (T:=S.bm s1 (H+m+4) (m+1) (S.psum x m*P) (200+500*m)) (Za (Zs 0) (Za (Zs 3) (Za (Zs 5) (Za (Zs 6) Zh)))) (by decide) (by simp) (λ st2 hs2=>Zod hN hxA (Y7 _) hk hP (by omega) (λ j hj=>hdat _ (by omega) (by omega)) st2 hs2) (by decide) λ o k1 hT=>?_
 obtain⟨s2,acc,rfl,hw2,dacc,lacc,vacc,hk1'⟩:=hT
 show S.WS I 55 lk false _ _ s2 _ _ _
 have hyB:S.NumIn I s2.mem (H+m+4+m+1) e1 nu y:=⟨hyA.1.same λ p e j hj=>hw2.out_ _ (by have:=hy'.2 p e;omega),hyA.2⟩
 refine Z1p (d:=55) (T:=S.bm s2 (H+m+4+m+1) (n+1) (S.psum y n*P) (200+500*n)) (Za (Zs 1) (Za (Zs 4) (Za (Zs 5) (Za (Zs 7) Zh)))) (by decide) (by simp) (λ st2 hs2=>Zod hN hyB (Y7 _) hk hP (by omega) (λ j hj=>hdat _ (by omega) (by omega)) st2 hs2) (by decide) λ o k2 hT=>?_
 obtain⟨s3,vd,rfl,hw3,dvd,lvd,vvd,hk2'⟩:=hT
 show S.WS I 55 lk false _ _ s3 _ _ _
 have hps:∀{z:List Int} {n:Nat},S.Top z n->S.psum z n=S.dval z:=λ {z n} h=>by
  rw[Zda h,<- Zam (x:=z.take n) (n:=n) (by rw[Yq];omega)];exact Zdb _ λ j hj=>(Zaq hj).symm
 rw[hps hTx] at vacc;rw[hps hTy] at vvd;have hD:S.DvS st s3 H m n (m-n+1) [] acc vd:=by
  refine⟨λ a ha=>?_,λ i hi=>absurd hi (Nat.not_lt_zero _),λ i hi=>?_,λ i hi=>?_,λ j hj=>?_,?_,?_⟩
  .rw[hw3.out_ a (by omega),hw2.out_ a (by omega),hm]
  .rw[hw3.out_ _ (by omega)]
   exact hw2.dig i (by omega)
  .exact hw3.dig i (by omega)
  .rw[hw3.reg j hj,hw2.reg j hj,hs.reg j hj]
  .rw[hw3.inp,hw2.inp,hs.inp]
  .rw[hw3.out,hw2.out,hs.out]
 obtain⟨nv1,nv2,nv3⟩:=Zyz dy hTy hn1 hk hP (by rw[<- hg];exact hk1) (by rw[<- hg];exact hk2) dvd lvd vvd;have hlt0:S.dval acc<S.dval y*P*65536^(m-n+1):=by
  have h1:(65536:Int)^m=65536^(n-1)*65536^(m-n+1):=by rw[<- Int.pow_add];congr 1;omega
  have h2:=by_.2 hn0;have h3:(0:Int)<65536^(m-n+1):=Yar (by decide);have h4:=Int.mul_le_mul_of_nonneg_right h2 (Ya3 h3);have h5:(S.dval x+1)*P<=S.dval y*65536^(m-n+1)*P:=Int.mul_le_mul_of_nonneg_right (by omega) (by omega);have e1:(S.dval x+1)*P=S.dval x*P+P:=by grind
  have e2:S.dval y*65536^(m-n+1)*P=S.dval y*P*65536^(m-n+1):=by
   generalize (65536:Int)^(m-n+1)=B
   grind
  omega
 refine Zo ((Zn (op:=1) (by decide) (Zn (op:=2) (by decide) (Zs 3) (Zs 4)) (Zp 1)).to_ (y:=((m-n+1:Nat):Int)) (by
  show S.alu 1 (S.alu 2 (m:Int) (n:Int)) _=_
  rw[Zat,Zjw];unfold S.u32m;omega) (Yb _)) (by decide) ?_
 show S.WS I 55 lk false _ [e0,e1,e2,(m:Int),(n:Int),(k:Int),H+m+4,H+m+4+m+1,((m-n+1:Nat):Int),g,e10] s3 _ _ _
 have hMW:(m-n+1)*(850+250*n)<=(XL+1)*W:=Nat.mul_le_mul (by omega) (by omega);refine Z2i hN (V:=S.dval y*P) (X:=S.dval x*P) (W:=850+250*n) h26 hD lacc lvd dacc dvd hn1 hnm (by omega) (by omega) nv1.symm nv3 vacc.symm hlt0 (λ a h1 h2=>hdat a h1 (by omega)) rfl λ g4 o4 s4 qs acc4 hD4 lqs dqs lacc4 dacc4 hval hlt4=>?_
 have P0:0<P:=by omega
 have hr0:=Zk dacc4;obtain⟨q,hq⟩:=Yx (S.dval qs);rw[<- hq] at hval;have hPr:S.dval acc4=P*(S.dval x-q*S.dval y):=by
  generalize S.dval acc4=A at *;generalize S.dval x=X at *;generalize S.dval y=Y at *;clear hD hD4 hw2 hw3
  grind
 obtain⟨rr,hrr⟩:=Yx (S.dval x-q*S.dval y);rw[<- hrr] at hPr;have hrr0:0<=rr:=by
  refine Y_c λ c=>?_
  have:=Int.mul_le_mul_of_nonneg_left (show rr<=-1 by omega) (Ya3 P0);omega
 have hrr1:rr<S.dval y:=by
  refine Y_c λ c=>?_
  have:=Int.mul_le_mul_of_nonneg_left (show S.dval y<=rr by omega) (Ya3 P0);have e:P*S.dval y=S.dval y*P:=Int.mul_comm _ _;omega
 obtain⟨hdv,hmd⟩:=Zwa hY (show S.dval x=rr+q*S.dval y by omega) hrr0 hrr1;have h26_4:s4.reg 26=H:=by rw[hD4.reg 26 (by decide)];exact h26
 have hb4:∀(neg val:Int)(N:Nat)(M:Nat),M<=2*XL+YL+7->(neg=0\/neg=1)->0<=val->S.signed neg val=z->∀o k,S.NumR I s4 H neg val M N o k->S.ao I st H z (2*XL+YL+7) N o k:=λ neg val N M hM hn hv hz2 o k h=>⟨neg,val,hn,hv,hz2,Zv9 (λ a ha=>hD4.out_ a (by omega)) hD4.reg hD4.inp hD4.out hM h⟩
 refine Zv (x:=if e2=0 then 1 else 0) (Zow (Zs 2) (Zp 0)) (by decide) (λ ht0=>?_) (λ ht1=>?_)
 rotate_left
 .have e20:e2=0:=Y_c λ c=>ht1 (if_neg c)
  obtain⟨sg,hsg⟩:∃n:Int,n=(if nv=nu then 0 else 1):=⟨_,rfl⟩
  have hsg01:sg=0\/sg=1:=by rw[hsg];split <;> omega
  refine Zv8 hN (N:=NN) (M:=m-n+3) (acc:=qs) (val:=q) (neg:=sg) (st:=s4) hsg01 ⟨λ a _=>rfl,λ j hj=>by have:=hD4.q j hj;rw[show H+2+((0:Nat):Int)+j=H+2+j by omega] at this;exact this,λ _ _=>rfl,rfl,rfl⟩ h26_4 dqs (by omega) (λ j hj=>hdat _ (by omega) (by omega)) hq.symm (by omega)
   (Za ((Zn (op:=9) (by decide) (Zd1 (Za (Zs 0) Zh) (by simp) (Zb4 hN (Zi3 hx hD4)) (by decide)) (Zd1 (Za (Zs 1) Zh) (by simp) (Zb4 hN (Zi3 hy hD4)) (by decide))).to_ (y:=sg) (by rw[Z2q sx sy,hsg]) (Yb _)) (Za ((Zn (op:=1) (by decide) (Zn (op:=2) (by decide) (Zs 3) (Zs 4)) (Zp 1)).to_ (y:=(qs.length:Int)) (by
    show S.alu 1 (S.alu 2 (m:Int) (n:Int)) _=_
    rw[Zat,Zjw];unfold S.u32m;omega) (Yb _)) Zh)) (by decide) (by decide) ?_ (hb4 _ _ _ _ (by omega) hsg01 (by rw[hq];exact Zk dqs) ?_)
  .omega
  .rw[hz,S.al,if_pos e20,<- hsg,hdv]
 have e21:e2=1:=by
  rcases ht with e|e
  .rw[if_pos e] at ht0;cases ht0
  .exact e
 refine Zo (Zp 0) (by decide) ?_
 show S.WS I 55 lk false _ [e0,e1,e2,(m:Int),(n:Int),(k:Int),H+m+4,H+m+4+m+1,0,g4,o4] s4 _ _ _
 refine Z2j hN h26_4 hD4.r lacc4 dacc4 hnm (by omega) hk hP (by omega) (λ a h1 h2=>hdat a h1 (by omega)) λ g5 s5 racc hS5 lr5 dr5 hv5=>?_
 have hrv:S.dval racc=rr:=by
  have hm0:0<=acc4.getD 0 0%P:=Int.emod_nonneg _ (by omega);have hm1:acc4.getD 0 0%P<P:=Int.emod_lt_of_pos _ P0;rw[hPr] at hv5;refine Y_c λ c=>?_
  rcases Int.lt_or_gt_of_ne c with h|h
  .have h1:=Int.mul_le_mul_of_nonneg_left (show S.dval racc+1<=rr by omega) (Ya3 P0)
   have e:P*(S.dval racc+1)=P*S.dval racc+P:=by grind
   omega
  .have h1:=Int.mul_le_mul_of_nonneg_left (show rr+1<=S.dval racc by omega) (Ya3 P0)
   have e:P*(rr+1)=P*rr+P:=by grind
   omega
 have hx5:S.NumAt I s5.mem e0 nv x:=(Zi3 hx hD4).same λ p e j hj=>hS5.out_ _ (by have:=hx.2 p e;omega)
 refine Zv8 hN (N:=NN) (M:=n+2) (acc:=racc) (val:=rr) (neg:=nv) (st:=s4) sx hS5 h26_4 dr5 (by omega) (λ j hj=>hdat _ (by omega) (by omega)) hrv (by omega)
  (Za (Zd1 (Za (Zs 0) Zh) (by simp) (Zb4 hN hx5) (by decide)) (Za ((Zs 4).to_ (y:=(racc.length:Int)) (by show(n:Int)=_;omega) (Yb _)) Zh)) (by decide) (by decide) ?_ (hb4 _ _ _ _ (by omega) sx hrr0 ?_)
 .omega
 .rw[hz,S.al,if_neg (by omega),hmd]
end
end
