/- Parts. -/
import Derived.Test.YtfhiobkkdcdmiaaGreatDoorZNTake
import Derived.Test.YtfhiobkkdcdmiaaGreatDoorZNKno
set_option linter.all false
set_option maxHeartbeats 4000000
open Go.Lib renaming hid->Ya
open Nat renaming le_refl->Yb,le_trans->Y1,add_mul->Ycg
open List renaming length_append->Yd,length_cons->Yi,length_take->Yq,nil_append->Yaj,take_append_drop->Yao,take_of_length_le->Ybc
open Int renaming le_refl->Y4,mul_nonneg->Yau,pow_pos->Yaw,le_of_lt->Ya2,add_zero->Ybs,ediv_nonneg->Yb1,emod_nonneg->Yct,emod_lt_of_pos->Ycw
namespace Go.Proofs.YtfhiobkkdcdmiaaGreatDoor
set_option maxRecDepth 100000
section
open Go.RowKit
theorem Z6a {T w V0 V hi U0 U g:Int}(hT:0<T)(hw:32768<=w)(hV:V=w*T+V0)(h0:0<=V0)(h1:V0<T)(hU:U=hi*T+U0)(u0:0<=U0)(u1:U0<T)(hh:0<=hi)(hUV:U<65536*V)(hg:g=if 65535<hi/w then 65535 else hi/w) :
 0<=g/\g<65536/\U<(g+1)*V/\g*V<=U+2*V:=by
 have q0:0<=hi/w:=Yb1 hh (by omega);have qm:w*(hi/w)+hi%w=hi:=Int.mul_ediv_add_emod hi w;have r0:0<=hi%w:=Yct _ (by omega);have r1:hi%w<w:=Ycw _ (by omega);generalize hi/w=q at *;generalize hi%w=r at *;have g0:0<=g:=by rw [hg];split <;> omega
 have gq:g<=q:=by rw [hg];split <;> omega
 have gB:g<=65535:=by rw [hg];split <;> omega
 refine ⟨g0,by omega,?_,?_⟩
 ·by_cases c:65535<q
  ·rw [hg,if_pos c]
   omega
  ·rw [if_neg c] at hg
   subst hg;have e:(g+1)*V-U=(w-r-1)*T+(T-U0)+(g+1)*V0:=by rw [hV,hU,<- qm];grind
   have a1:0<=(w-r-1)*T:=Yau (by omega) (by omega);have a2:0<=(g+1)*V0:=Yau (by omega) h0;omega
 ·have e:U+2*V-g*V=(w*(q-g)+r)*T+U0+(2*w-65536)*T+65536*T+2*V0-g*V0:=by rw [hV,hU,<- qm];grind
  have a1:0<=(w*(q-g)+r)*T:=Yau (by have:=Yau (show 0<=w by omega) (show 0<=q-g by omega);omega) (by omega);have a2:0<=(2*w-65536)*T:=Yau (by omega) (by omega);have a3:g*V0<=65535*V0:=Int.mul_le_mul_of_nonneg_right gB h0;omega
theorem Zjj {x:List Int}(hx:S.Digs x):∀ i:Nat,0<=S.psum x i/\S.psum x i<65536^i
 | 0=>by show (0:Int)<=0/\(0:Int)<1;decide
 | i+1=>by
  obtain ⟨h1,h2⟩:=Zjj hx i;have hb:=Zy hx i;have hp:(0:Int)<65536^i:=Yaw (by decide);have h3:=Yau hb.1 (Ya2 hp);have h4:x.getD i 0*65536^i<=65535*65536^i:=Int.mul_le_mul_of_nonneg_right (by omega) (Ya2 hp);rw [S.psum,Int.pow_succ];generalize x.getD i 0*65536^i=t at *;generalize (65536:Int)^i=B at *;omega
theorem Zgn:∀ (a b:List Int),S.dval (a++b)=S.dval a+65536^a.length*S.dval b
 | [],b=>by show S.dval b=0+65536^0*S.dval b;simp
 | x::r,b=>by
  have h:=Zgn r b
  show x+65536*S.dval (r++b)=x+65536*S.dval r+65536^(r.length+1)*S.dval b
  rw [h,Int.pow_succ];generalize (65536:Int)^r.length=B
  grind
theorem Ze1 {a b:List Int}(ha:S.Digs a)(hb:S.Digs b):S.Digs (a++b):=fun d hd=>(List.mem_append.1 hd).elim (ha d) (hb d)
theorem Zbg {a:List Int}(ha:S.Digs a)(n:Nat):S.Digs (a.drop n):=fun d hd=>ha d (List.mem_of_mem_drop hd)
theorem Z2a {k:Nat}(hk:k<=15){P a b:Int}(hP:P=2^k)(ha:0<=a/\a<65536)(hb:0<=b/\b<65536):P*(((a*65536+b)/P)%65536)=(a%P)*65536+b-b%P:=by
 match k,hk with
 | 0,_=>have:P=1:=hP;subst this;omega
 | 1,_=>have:P=2:=hP;subst this;omega
 | 2,_=>have:P=4:=hP;subst this;omega
 | 3,_=>have:P=8:=hP;subst this;omega
 | 4,_=>have:P=16:=hP;subst this;omega
 | 5,_=>have:P=32:=hP;subst this;omega
 | 6,_=>have:P=64:=hP;subst this;omega
 | 7,_=>have:P=128:=hP;subst this;omega
 | 8,_=>have:P=256:=hP;subst this;omega
 | 9,_=>have:P=512:=hP;subst this;omega
 | 10,_=>have:P=1024:=hP;subst this;omega
 | 11,_=>have:P=2048:=hP;subst this;omega
 | 12,_=>have:P=4096:=hP;subst this;omega
 | 13,_=>have:P=8192:=hP;subst this;omega
 | 14,_=>have:P=16384:=hP;subst this;omega
 | 15,_=>have:P=32768:=hP;subst this;omega
 | n+16,h=>omega
theorem Z4w {acc:List Int}(ha:S.Digs acc){j n:Nat}{V:Int}(hl:j+(n+1)<=acc.length)(hV:0<=V/\V<65536^n)(hlt:S.dval acc<V*65536^(j+1)) :
 S.dval acc=S.dval (acc.take j)+65536^j*S.dval ((acc.drop j).take (n+1))/\S.dval ((acc.drop j).drop (n+1))=0/\S.dval ((acc.drop j).take (n+1))<65536*V/\0<=S.dval (acc.take j)/\S.dval (acc.take j)<65536^j:=by
 have e1:acc=acc.take j++((acc.drop j).take (n+1)++(acc.drop j).drop (n+1)):=by rw [Yao,Yao]
 have d1:S.dval acc=S.dval (acc.take j++((acc.drop j).take (n+1)++(acc.drop j).drop (n+1))):=congrArg S.dval e1;have l1:(acc.take j).length=j:=by rw [Yq];omega
 have l2:((acc.drop j).take (n+1)).length=n+1:=by rw [Yq,List.length_drop];omega
 rw [Zgn,Zgn,l1,l2] at d1;have b1:=Zi (Zao ha j);have b2:=Zg8 (Zao ha j);rw [l1] at b2;have b3:=Zi (Zao (Zbg ha j) (n+1));have b4:=Zi (Zbg (Zbg ha j) (n+1));generalize S.dval (acc.take j)=lo at *;generalize S.dval ((acc.drop j).take (n+1))=U at *;generalize S.dval ((acc.drop j).drop (n+1))=hi at *;have hp:(0:Int)<65536^j:=Yaw (by decide);have hpn:(0:Int)<65536^n:=Yaw (by decide);rw [Int.pow_succ] at hlt;rw [Int.pow_succ] at d1;generalize (65536:Int)^j=Bj at *;generalize (65536:Int)^n=Bn at *;have hz:hi=0:=by
  refine Classical.byContradiction fun c=>?_
  have c1:1<=hi:=by omega
  have m1:Bj*(Bn*65536)*1<=Bj*(Bn*65536)*hi:=Int.mul_le_mul_of_nonneg_left c1 (Yau (by omega) (by omega));have m2:(V+1)*(Bj*65536)<=Bn*(Bj*65536):=Int.mul_le_mul_of_nonneg_right (by omega) (by omega);have m3:0<=Bj*U:=Yau (by omega) b3;have e2:Bj*(U+Bn*65536*hi)=Bj*U+Bj*(Bn*65536)*hi:=by grind
  have e3:(V+1)*(Bj*65536)=V*(Bj*65536)+Bj*65536:=by grind
  have e4:Bj*(Bn*65536)*1=Bn*(Bj*65536):=by grind
  omega
 subst hz;have e5:S.dval acc=lo+Bj*U:=by rw [d1,Int.mul_zero,Ybs]
 refine ⟨e5,rfl,?_,b1,b2⟩;refine Classical.byContradiction fun c=>?_
 have m1:Bj*(65536*V)<=Bj*U:=Int.mul_le_mul_of_nonneg_left (by omega) (by omega);have e6:Bj*(65536*V)=V*(Bj*65536):=by grind
 omega
end
section
open Go.RowKit
namespace S
structure DvS (st s:Vw)(H:Int)(m n j:Nat)(qs acc vd:List Int):Prop where
 out_:∀ a,a<H+2\/H+2*m+n+6<=a->s.mem a=st.mem a
 q:∀ i:Nat,i<qs.length->s.mem (H+2+j+i)=4*qs.getD i 0
 r:∀ i:Nat,i<m+1->s.mem (H+m+4+i)=acc.getD i 0
 v:∀ i:Nat,i<n+1->s.mem (H+m+4+m+1+i)=vd.getD i 0
 reg:∀ j,¬ (4<=j/\j<=7)->s.reg j=st.reg j
 inp:s.inp=st.inp
 out:s.out=st.out
end S
section
variable {I:S.Img}{dep lk:Int}{behind:Bool}{env:List Int}{st:S.Vw}{C:Nat}{Q:List Int->S.Vw->Nat->Prop}{R:S.BO->Nat->Prop}
theorem Z4x {n:Int}{name:ByteArray}{l:List S.BE}{r:List S.BS}{xs:List Int}{K N:Nat}{d:Int}{T:S.Vw->Nat->Prop}(hl:S.Yls I dep lk env st l xs K)(hdl:S.dEs l<=20)(hlen:xs.length<=4)(hr:∀ st1,S.Sim st st1->S.Real I name false (st1.args xs) d (fun _ o k=>∃ s,o=.ret s/\k<=N/\T s k))(hd:d<=dep)
 (h:∀ s k,T s k->S.WS I dep lk behind r (env.set n.toNat (s.reg 4)) s (C+K+N+10) Q R):S.WS I dep lk behind (S.sAs n (S.eF name l)::r) env st C Q R:=fun st1 c hs hc=>by
 rw [Zbo,Zum,Zpo];refine hl 0 st1 c _ _ (by omega) hs fun st2 c2 h2 hc2=>⟨d,_,hr st2 h2,hd,fun ret o k ho=>?_⟩
 obtain ⟨s,rfl,hk,hT⟩:=ho;exact h s k hT s _ (.refl s) (by omega)
theorem Zyy {name:ByteArray}{l:List S.BE}{b r:List S.BS}{xs:List Int}{K N:Nat}{d:Int}{T:S.Vw->Nat->Prop}(hl:S.Yls I dep lk env st l xs K)(hdl:S.dEs l<=20)(hlen:xs.length<=4)(hr:∀ st1,S.Sim st st1->S.Real I name false (st1.args xs) d (fun _ o k=>∃ s,o=.ret s/\k<=N/\T s k))(hd:d<=dep)
 (h0:∀ s k,T s k->s.reg 4=0->S.WS I dep lk behind r env s (C+K+N+14) Q R)
 (h1:∀ s k,T s k->s.reg 4≠0->S.WS I dep lk behind b env s (C+K+N+14) (fun env st c=>S.wpSs I dep lk behind r env st (c+3) Q R) R):S.WS I dep lk behind (S.sWhen (S.eF name l) b::r) env st C Q R:=fun st1 c hs hc=>by
 rw [Zbo,S.sWhen,Zun,Zpo];refine hl 0 st1 c _ _ (by omega) hs fun st2 c2 h2 hc2=>⟨d,_,hr st2 h2,hd,fun ret o k ho=>?_⟩
 obtain ⟨s,rfl,hk,hT⟩:=ho
 show (if s.reg 4=0 then _ else _)
 split
 ·rename_i h
  rw [Zul];exact h0 s k hT h s _ (.refl s) (by omega)
 ·rename_i h
  exact h1 s k hT h s _ (.refl s) (by omega)
end
section
variable {st s:S.Vw}{H:Int}{m n j:Nat}{qs acc vd:List Int}
theorem Zqa {s2:S.Vw}{win:List Int}{i:Nat}(h:S.DvS st s H m n j qs acc vd)(hw:S.RwS s s2 (H+m+4+i) win)(hl:win.length=n+1)(hi:i+n<=m)(hla:acc.length=m+1)(hq:j+qs.length<=m+1):S.DvS st s2 H m n j qs (acc.take i++(win++acc.drop (i+n+1))) vd:=by
 have l1:(acc.take i).length=i:=by rw [Yq];omega
 refine ⟨fun a ha=>?_,fun k hk=>?_,fun k hk=>?_,fun k hk=>?_,fun k hk=>(hw.reg k hk).trans (h.reg k hk),hw.inp.trans h.inp,hw.out.trans h.out⟩
 ·rw [hw.out_ a (by omega)]
  exact h.out_ a ha
 ·rw [hw.out_ _ (by omega)]
  exact h.q k hk
 ·rw [Zlw,l1]
  by_cases c:k<i
  ·rw [if_pos c,Zap c,hw.out_ _ (by omega)]
   exact h.r k hk
  ·rw [if_neg c,Zlw]
   by_cases c2:k-i<win.length
   ·rw [if_pos c2]
    have:=hw.dig (k-i) c2;rw [show H+m+4+(i:Int)+((k-i:Nat):Int)=H+m+4+k by omega] at this;exact this
   ·rw [if_neg c2,Zel,show i+n+1+(k-i-win.length)=k by omega,hw.out_ _ (by omega)]
    exact h.r k hk
 ·rw [hw.out_ _ (by omega)]
  exact h.v k hk
theorem Z2b (h:S.DvS st s H m n (j+1) qs acc vd)(g:Int)(hj:j+1+qs.length<=m+1):S.DvS st (s.sto (H+2+j) (4*g)) H m n j (g::qs) acc vd:=by
 have hm:∀ a,(s.sto (H+2+j) (4*g)).mem a=if a=H+2+j then 4*g else s.mem a:=fun _=>rfl
 refine ⟨fun a ha=>?_,fun k hk=>?_,fun k hk=>?_,fun k hk=>?_,h.reg,h.inp,h.out⟩
 ·rw [hm,if_neg (by omega)]
  exact h.out_ a ha
 ·cases k with
  | zero=>rw [hm,if_pos (by omega)];rfl
  | succ k =>
   rw [hm,if_neg (by omega)];have:=h.q k (by simpa using hk);rw [show H+2+((j+1:Nat):Int)+k=H+2+j+((k+1:Nat):Int) by omega] at this;exact this
 ·rw [hm,if_neg (by omega)]
  exact h.r k hk
 ·rw [hm,if_neg (by omega)]
  exact h.v k hk
theorem Zqb {win:List Int}{i:Nat}(hla:acc.length=m+1)(hi:i+n<=m)(hl:win.length=n+1):(acc.take i++(win++acc.drop (i+n+1))).length=m+1/\(acc.take i++(win++acc.drop (i+n+1))).take i=acc.take i/\(acc.take i++(win++acc.drop (i+n+1))).drop (i+n+1)=acc.drop (i+n+1)/\((acc.take i++(win++acc.drop (i+n+1))).drop i).take (n+1)=win:=by
 have l1:(acc.take i).length=i:=by rw [Yq];omega
 refine ⟨?_,?_,?_,?_⟩
 ·rw [Yd,Yd,l1,hl,List.length_drop];omega
 ·rw [List.take_append_of_le_length (by omega),Ybc (by omega)]
 ·rw [List.drop_append,List.drop_eq_nil_of_le (by omega),l1,Yaj,show i+n+1-i=win.length by omega,List.drop_append_of_le_length (Yb _),List.drop_length,Yaj]
 ·rw [List.drop_append_of_le_length (by omega),List.drop_eq_nil_of_le (by omega),Yaj,List.take_append_of_le_length (by omega),Ybc (by omega)]
end
section
variable {I:S.Img}(hN:S.NSegs I)
include hN
theorem Z0a {st s:S.Vw}{H:Int}{m n j i:Nat}{qs acc vd:List Int}(h:S.DvS st s H m n j qs acc vd)(hla:acc.length=m+1)(hlv:vd.length=n+1)(hi:i+n<=m)(hdat:∀ a,H<=a->a<H+2*m+n+6->S.Dat I a):S.RwAt I s.mem (H+m+4+i) ((acc.drop i).take (n+1))/\S.RwAt I s.mem (H+m+4+m+1) (vd.take n):=by
 have l1:((acc.drop i).take (n+1)).length=n+1:=by rw [Yq,List.length_drop];omega
 have l2:(vd.take n).length=n:=by rw [Yq];omega
 refine ⟨⟨fun k hk=>hdat _ (by omega) (by omega),fun k hk=>?_⟩,⟨fun k hk=>hdat _ (by omega) (by omega),fun k hk=>?_⟩⟩
 ·rw [l1] at hk
  rw [Zap hk,Zel];have:=h.r (i+k) (by omega);rw [show H+m+4+((i+k:Nat):Int)=H+m+4+i+k by omega] at this;exact this
 ·rw [l2] at hk
  rw [Zap hk];exact h.v k (by omega)
theorem Z2c {dep lk:Int}{st s:S.Vw}{C:Nat}{Q:List Int->S.Vw->Nat->Prop}{R:S.BO->Nat->Prop}{H x y t sh g o U V:Int}{m n j:Nat}{qs acc vd:List Int}{rest:List S.BS}(hdep:55<=dep)(hD:S.DvS st s H m n (j+1) qs acc vd)(hla:acc.length=m+1)(hlv:vd.length=n+1)(da:S.Digs acc)(dv:S.Digs vd)(hj:j+n<=m)(hn:n<=900)(hq:j+1+qs.length<=m+1)
 (hV:V=S.dval (vd.take n)) (hVp:0<V) (hU:0<=U) (hg:0<=g/\g<65536) (ho:(o=0/\S.dval ((acc.drop j).take (n+1))=U-g*V)\/(o=1/\S.dval ((acc.drop j).take (n+1))=U-g*V+65536^(n+1))) (h1:U<(g+1)*V) (h2:g*V<=U+2*V) (hdat:∀ a,H<=a->a<H+2*m+n+6->S.Dat I a)
 (hrest:∀ g' s' acc',0<=g'/\g'<65536->S.DvS st s' H m n (j+1) qs acc' vd->acc'.length=m+1->S.Digs acc'->acc'.take j=acc.take j->acc'.drop (j+n+1)=acc.drop (j+n+1)->S.dval ((acc'.drop j).take (n+1))=U-g'*V->0<=U-g'*V->U-g'*V<V ->
  S.WS I dep lk false rest [x,y,t,(m:Int),(n:Int),sh,H+m+4,H+m+4+m+1,(j:Int),g',0] s' (C+500+150*n) Q R) :
 S.WS I dep lk false (S.sWh (S.eL 10) [S.sAs 9 (S.eSub (S.eL 9) (S.eC 1)),S.sWhen (S.eF S.kNBack [S.eAt,S.eL 7,S.eL 4]) [S.sAs 10 (S.eC 0)]]::rest) [x,y,t,(m:Int),(n:Int),sh,H+m+4,H+m+4+m+1,(j:Int),g,o] s C Q R:=by
 have hsz:=hN.ok.size2;have hA0:=(hdat H (Y4 _) (by omega)).1;have hAl:=(hdat (H+2*m+n+5) (by omega) (by omega)).2.1;have bw:∀ acc':List Int,S.Digs acc'->acc'.length=m+1->0<=S.dval ((acc'.drop j).take (n+1))/\S.dval ((acc'.drop j).take (n+1))<65536^(n+1):=fun acc' da' hl'=>by
  have h1:=Zi (Zao (Zbg da' j) (n+1));have h2:=Zg8 (Zao (Zbg da' j) (n+1));have h3:((acc'.drop j).take (n+1)).length=n+1:=by rw [Yq,List.length_drop];omega
  rw [h3] at h2;exact ⟨h1,h2⟩
 refine Zfk (by decide) (fun env s2 C2 k=>∃ (g2 o2:Int) (acc2:List Int),env=[x,y,t,(m:Int),(n:Int),sh,H+m+4,H+m+4+m+1,(j:Int),g2,o2]/\S.DvS st s2 H m n (j+1) qs acc2 vd/\acc2.length=m+1/\S.Digs acc2/\acc2.take j=acc.take j/\acc2.drop (j+n+1)=acc.drop (j+n+1)/\(0<=g2/\g2<65536)/\U-g2*V<V /\
  ((o2=0/\k=0/\S.dval ((acc2.drop j).take (n+1))=U-g2*V)\/(o2=1/\S.dval ((acc2.drop j).take (n+1))=U-g2*V+65536^(n+1)/\0<=U-g2*V+(k:Int)*V))/\k<=2/\C2<=C+(2-k)*(150+72*n)) (k0:=if o=0 then 0 else 2)
  ⟨g,o,acc,rfl,hD,hla,da,rfl,rfl,hg,by
   have e:(g+1)*V=g*V+V:=by grind
   omega,?_,by split <;> omega,by omega⟩ ?_
 ·rcases ho with ⟨rfl,h⟩ | ⟨rfl,h⟩
  ·exact .inl ⟨rfl,rfl,h⟩
  ·refine .inr ⟨rfl,h,?_⟩
   show 0<=U-g*V+2*V
   omega
 ·rintro env s2 C2 k ⟨g2,o2,acc2,rfl,hD2,hla2,da2,ht2,hd2,hg2,hlt2,ho2,hk2,hC2⟩
  have l6:∀ s g o,S.Yl I dep lk [x,y,t,(m:Int),(n:Int),sh,H+m+4,H+m+4+m+1,(j:Int),g,o] s (S.eL 6) (H+m+4) 1:=fun s g o=>Zq 6
  have l8:∀ s g o,S.Yl I dep lk [x,y,t,(m:Int),(n:Int),sh,H+m+4,H+m+4+m+1,(j:Int),g,o] s (S.eL 8) j 1:=fun s g o=>Zq 8
  have l7:∀ s g o,S.Yl I dep lk [x,y,t,(m:Int),(n:Int),sh,H+m+4,H+m+4+m+1,(j:Int),g,o] s (S.eL 7) (H+m+4+m+1) 1:=fun s g o=>Zq 7
  have l4:∀ s g o,S.Yl I dep lk [x,y,t,(m:Int),(n:Int),sh,H+m+4,H+m+4+m+1,(j:Int),g,o] s (S.eL 4) n 1:=fun s g o=>Zq 4
  have l9:∀ s g o,S.Yl I dep lk [x,y,t,(m:Int),(n:Int),sh,H+m+4,H+m+4+m+1,(j:Int),g,o] s (S.eL 9) g 1:=fun s g o=>Zq 9
  have b2:=bw acc2 da2 hla2;refine ⟨o2,1,Zq 10,fun hz=>?_,fun hnz=>?_⟩
  ·rcases ho2 with ⟨_,hk0,h⟩ | ⟨q,_⟩
   ·have e0:o2=0:=hz
    subst e0;refine (hrest g2 s2 acc2 hg2 hD2 hla2 da2 ht2 hd2 h (by omega) hlt2).more ?_;subst hk0;omega
   ·rw [q] at hz;cases hz
  ·rcases ho2 with ⟨q,_⟩ | ⟨rfl,h,hk⟩
   ·exact absurd q hnz
   have hneg:U-g2*V<0:=by omega
   have hg1:1<=g2:=Classical.byContradiction fun c=>by
    have:g2=0:=by omega
    rw [this,Int.zero_mul] at hneg;omega
   obtain ⟨k',rfl⟩:∃ k',k=k'+1:=by
    cases k with
    | zero =>
     rw [show (((0:Nat):Int))*V=0 from Int.zero_mul V] at hk;omega
    | succ k'=>exact ⟨k',rfl⟩
   have eg:(g2-1)*V=g2*V-V:=by grind
   refine Zo ((Zm (op:=2) (by decide) (l9 s2 _ _) (Zn 1)).to_ (y:=g2-1) (by rw [Zj7];unfold S.u32m;omega) (Yb _)) (by decide) ?_
   show S.WS I dep lk false _ [x,y,t,(m:Int),(n:Int),sh,H+m+4,H+m+4+m+1,(j:Int),g2-1,1] s2 _ _ _
   obtain ⟨r1,r2⟩:=Z0a hN hD2 hla2 hlv hj hdat;have lw:((acc2.drop j).take (n+1)).length=n+1:=by rw [Yq,List.length_drop];omega
   have lv:(vd.take n).length=n:=by rw [Yq];omega
   have hreal:=Zsy hN r1 r2 (Zao (Zbg da2 j) (n+1)) (Zao dv n) lw lv hn (by omega);refine Zyy (N:=100+70*n) (T:=fun s3 k3=>∃ win b,S.RwS s2 s3 (H+m+4+j) win/\S.Digs win/\win.length=n+1/\(b=0\/b=1)/\s3.reg 4=b/\S.dval win=S.dval ((acc2.drop j).take (n+1))+S.dval (vd.take n)-b*65536^(n+1)) (d:=20)
    (Za ((Zm (op:=1) (by decide) (l6 s2 _ _) (l8 s2 _ _)).to_ (y:=H+m+4+j) (by rw [Zau];unfold S.u32m;omega) (Yb _)) (Za (l7 s2 _ _) (Za (l4 s2 _ _) Zg))) (by decide) (by simp) (fun st1 hs1=>?_) (by omega) (fun s3 k3 hT h40=>?_) (fun s3 k3 hT h40=>?_)
   ·exact (hreal st1 hs1).mono fun _ o k hh=>by
     obtain ⟨s,win,b,e,q1,q2,q3,q4,q5,q6,q7⟩:=hh;exact ⟨s,e,q7,win,b,q1,q2,q3,q4,q5,q6⟩
   ·obtain ⟨win,b,q1,q2,q3,q4,q5,q6⟩:=hT
    have hb0:b=0:=by rw [<- q5];exact h40
    subst hb0;obtain ⟨w1,w2,w3,w4⟩:=Zqb hla2 hj q3;have hw:=Zqa hD2 q1 q3 hj hla2 hq;have db:=Ze1 (Zao da2 j) (Ze1 q2 (Zbg da2 (j+n+1)));have bb:=bw _ db w1;rw [w4] at bb;rw [<- hV,h,Int.zero_mul] at q6;refine Z5 (k2:=k') (by omega) ⟨g2-1,1,_,rfl,hw,w1,db,w2.trans ht2,w3.trans hd2,⟨by omega,by omega⟩,by omega,.inr ⟨rfl,by rw [w4];omega,?_⟩,by omega,?_⟩
    ·have:((k'+1:Nat):Int)*V=(k':Int)*V+V:=by grind
     omega
    ·have e:(2-k')*(150+72*n)=(2-(k'+1))*(150+72*n)+(150+72*n):=by
      rw [show 2-k'=(2-(k'+1))+1 by omega,Nat.succ_mul]
     omega
   ·obtain ⟨win,b,q1,q2,q3,q4,q5,q6⟩:=hT
    have hb1:b=1:=q4.resolve_left fun e=>h40 (by rw [q5];exact e)
    subst hb1;obtain ⟨w1,w2,w3,w4⟩:=Zqb hla2 hj q3;have hw:=Zqa hD2 q1 q3 hj hla2 hq;have db:=Ze1 (Zao da2 j) (Ze1 q2 (Zbg da2 (j+n+1)));rw [<- hV,h,Int.one_mul] at q6;refine Zo (Zn 0) (by decide) (Zbk 3 ?_)
    show S.WS I dep lk false _ [x,y,t,(m:Int),(n:Int),sh,H+m+4,H+m+4+m+1,(j:Int),g2-1,0] s3 _ _ _
    refine Z5 (k2:=0) (by omega) ⟨g2-1,0,_,rfl,hw,w1,db,w2.trans ht2,w3.trans hd2,⟨by omega,by omega⟩,by omega,.inl ⟨rfl,rfl,by rw [w4];omega⟩,by omega,?_⟩;have e:(2-0)*(150+72*n)=(2-(k'+1))*(150+72*n)+(1+k')*(150+72*n):=by
     rw [<- Ycg,show 2-(k'+1)+(1+k')=2-0 by omega]
    have e2:(1+k')*(150+72*n)=(150+72*n)+k'*(150+72*n):=by rw [Ycg,Nat.one_mul]
    omega
end
end
section
open Go.RowKit
theorem Z4y {a:Int}(ha:0<=a/\a<65536):S.alu 10 a (16%4294967296)=a*65536:=by
 show S.u32m (a*65536)=_
 unfold S.u32m;omega
theorem Z0b {a b:Int}(ha:0<=a/\a<65536)(hb:0<=b/\b<65536):S.alu 8 (a*65536) b=a*65536+b :=
 Zz 16 (a*65536) b 65536 (by decide) (by omega) (by omega) (by omega) (by omega) (by omega) (by omega)
theorem Z7q (x y:Int):S.alu 5 x y=x/y:=rfl
section
variable {I:S.Img}(hN:S.NSegs I)
include hN
theorem Z2d {dep lk:Int}{st:S.Vw}{C:Nat}{Q:List Int->S.Vw->Nat->Prop}{R:S.BO->Nat->Prop}{x y t m n r v j g o:Int}{rest:List S.BS}(hg:1<=g/\g<65536)
 (hrest:∀ k:Nat,k<=15->32768<=g*2^k->g*2^k<65536->S.WS I dep lk false rest [x,y,t,m,n,(k:Int),r,v,j,g,o] st (C+400) Q R) :
 S.WS I dep lk false (S.sWh (S.eLt (S.eB 10 (S.eL 9) (S.eL 5)) (S.eC 32768)) [S.sInc 5]::rest) [x,y,t,m,n,0,r,v,j,g,o] st C Q R:=by
 refine Zfk (by decide) (fun env s2 C2 k=>∃ i:Nat,env=[x,y,t,m,n,(i:Int),r,v,j,g,o]/\s2=st/\g*2^i<65536/\i<=15/\k=16-i/\C2<=C+20*i) (k0:=16) ⟨0,rfl,rfl,by simp;omega,by decide,rfl,by omega⟩ ?_;rintro env s2 C2 k ⟨i,rfl,rfl,hlt,hi,rfl,hC⟩;have y1:=Zm (I:=I) (dep:=dep) (lk:=lk) (st:=s2) (op:=14) (by decide) (Zm (op:=10) (by decide) (Zq 9) (Zq 5)) (Zn 32768) (env:=[x,y,t,m,n,(i:Int),r,v,j,g,o]);rw [Zcl] at y1;have e1:S.alu 10 g (i:Int)=g*2^i:=Z60 hi rfl ⟨by omega,by omega⟩;have y2:=y1.to_ (y:=if g*2^i<32768 then 1 else 0) (by
  show (if S.alu 10 g (i:Int)<_ then _ else _)=_
  rw [e1];rfl) (Yb _)
 refine ⟨_,_,y2,fun hz=>?_,fun hnz=>?_⟩
 ·have hge:¬ g*2^i<32768:=fun q=>by rw [if_pos q] at hz;cases hz
  exact (hrest i hi (by omega) hlt).more (by omega)
 ·have hl2:g*2^i<32768:=Classical.byContradiction fun q=>hnz (if_neg q)
  have h2:g*2^(i+1)<65536:=by rw [Int.pow_succ,<- Int.mul_assoc];omega
  have hi2:i+1<=15:=by
   refine Classical.byContradiction fun c=>?_
   have:i=15:=by omega
   subst this;have e:(2:Int)^15=32768:=by decide
   rw [e] at hl2;omega
  refine Zo ((Zm (op:=1) (by decide) (Zq 5) (Zn 1)).to_ (y:=((i+1:Nat):Int)) (by
   show S.alu 1 (i:Int) _=_
   rw [Zau];unfold S.u32m;omega) (Yb _)) (by decide) ?_
  show S.WS I dep lk false _ [x,y,t,m,n,((i+1:Nat):Int),r,v,j,g,o] s2 _ _ _
  exact Z5 (k2:=16-(i+1)) (by omega) ⟨i+1,rfl,rfl,h2,hi2,rfl,by omega⟩
theorem Z2e {lk:Int}{st s:S.Vw}{C:Nat}{Q:List Int->S.Vw->Nat->Prop}{R:S.BO->Nat->Prop}{H x y t sh g0 o0 V X:Int}{m n n1 W:Nat}{acc vd:List Int}{rest:List S.BS}(h26:st.reg 26=H)(hD:S.DvS st s H m n (m-n+1) [] acc vd)(hla:acc.length=m+1)(hlv:vd.length=n+1)(da:S.Digs acc)(dv:S.Digs vd)(hn1:n=n1+1)(hnm:n<=m)(hn:n<=900)(hm:m<=900)
 (hV:V=S.dval (vd.take n)) (hw:32768<=vd.getD n1 0) (hX:X=S.dval acc) (hlt:S.dval acc<V*65536^(m-n+1)) (hdat:∀ a,H<=a->a<H+2*m+n+6->S.Dat I a) (hW:W=850+250*n)
 (hrest:∀ g o s' qs acc',S.DvS st s' H m n 0 qs acc' vd->qs.length=m-n+1->S.Digs qs->acc'.length=m+1->S.Digs acc'->X=S.dval acc'+S.dval qs*V->S.dval acc'<V ->
  S.WS I 55 lk false rest [x,y,t,(m:Int),(n:Int),sh,H+m+4,H+m+4+m+1,0,g,o] s' (C+5+(m-n+1)*W) Q R) :
 S.WS I 55 lk false (S.sWh (S.eL 8)
 [S.sAs 8 (S.eSub (S.eL 8) (S.eC 1)),
  S.sAs 9 (S.eB 5 S.eTop (S.eM (S.eAdd (S.eL 7) (S.eL 4)) (-1))),
  S.sWhen (S.eLt (S.eC 65535) (S.eL 9)) [S.sAs 9 (S.eC 65535)],
  S.sAs 10 (S.eF S.kNTake [S.eAt,S.eL 7,S.eL 4,S.eL 9]),
  S.sWh (S.eL 10) [S.sAs 9 (S.eSub (S.eL 9) (S.eC 1)),S.sWhen (S.eF S.kNBack [S.eAt,S.eL 7,S.eL 4]) [S.sAs 10 (S.eC 0)]],
  S.sPut (S.eAdd S.eH (S.eL 8)) 2 (S.eDg (S.eL 9))]::rest) [x,y,t,(m:Int),(n:Int),sh,H+m+4,H+m+4+m+1,((m-n+1:Nat):Int),g0,o0] s C Q R:=by
 have hsz:=hN.ok.size2;have hA0:=(hdat H (Y4 _) (by omega)).1;have hAl:=(hdat (H+2*m+n+5) (by omega) (by omega)).2.1;have dvt:=Zao dv n;have lvt:(vd.take n).length=n:=by rw [Yq];omega
 have hVb:0<=V/\V<65536^n:=by
  have h1:=Zi dvt;have h2:=Zg8 dvt;rw [lvt] at h2;rw [hV];exact ⟨h1,h2⟩
 have hT:(0:Int)<65536^n1:=Yaw (by decide);obtain ⟨w,hw2⟩:=Yx (vd.getD n1 0);have bw:=Zy dv n1;rw [<- hw2] at hw bw;have hVe:V=w*65536^n1+S.psum (vd.take n) n1:=by
  rw [hV,<- Zan (x:=vd.take n) (n:=n1+1) (by omega),S.psum,Zap (by omega),<- hw2];omega
 have hV0:=Zjj dvt n1;have hVp:0<V:=by
  have:0<w*65536^n1:=Int.mul_pos (by omega) hT;omega
 refine Zfk (by decide) (fun env s2 C2 k=>∃ (j:Nat) (g o:Int) (qs acc2:List Int),env=[x,y,t,(m:Int),(n:Int),sh,H+m+4,H+m+4+m+1,(j:Int),g,o]/\j=k/\S.DvS st s2 H m n j qs acc2 vd/\j+qs.length=m-n+1/\acc2.length=m+1/\S.Digs acc2/\S.Digs qs/\X=S.dval acc2+S.dval qs*65536^j*V/\S.dval acc2<V*65536^j/\C2<=C+qs.length*W) (k0:=m-n+1)
  ⟨m-n+1,g0,o0,[],acc,rfl,rfl,hD,rfl,hla,da,(fun d hd=>by cases hd),by show X=S.dval acc+0*_*V;rw [hX];simp,hlt,by simp⟩ ?_
 rintro env s2 C2 k ⟨j,g,o,qs,acc2,rfl,rfl,hD2,hjq,hla2,da2,dq,hX2,hlt2,hC2⟩;refine ⟨(j:Int),1,Zq 8,fun hz=>?_,fun hnz=>?_⟩
 ·have hj0:j=0:=by omega
  subst hj0;have hql:qs.length=m-n+1:=by omega
  refine (hrest g o s2 qs acc2 hD2 hql dq hla2 da2 (by rw [hX2];simp) (by simpa using hlt2)).more ?_;rw [<- hql];omega
 obtain ⟨j,rfl⟩:∃ q,j=q+1:=⟨j-1,by omega⟩
 have hj:j+n<=m:=by omega
 have l4:∀ s j g o,S.Yl I 55 lk [x,y,t,(m:Int),(n:Int),sh,H+m+4,H+m+4+m+1,j,g,o] s (S.eL 4) n 1:=fun s j g o=>Zq 4
 have l6:∀ s j g o,S.Yl I 55 lk [x,y,t,(m:Int),(n:Int),sh,H+m+4,H+m+4+m+1,j,g,o] s (S.eL 6) (H+m+4) 1:=fun s j g o=>Zq 6
 have l7:∀ s j g o,S.Yl I 55 lk [x,y,t,(m:Int),(n:Int),sh,H+m+4,H+m+4+m+1,j,g,o] s (S.eL 7) (H+m+4+m+1) 1:=fun s j g o=>Zq 7
 have l8:∀ s j g o,S.Yl I 55 lk [x,y,t,(m:Int),(n:Int),sh,H+m+4,H+m+4+m+1,j,g,o] s (S.eL 8) j 1:=fun s j g o=>Zq 8
 have l9:∀ s j g o,S.Yl I 55 lk [x,y,t,(m:Int),(n:Int),sh,H+m+4,H+m+4+m+1,j,g,o] s (S.eL 9) g 1:=fun s j g o=>Zq 9
 obtain ⟨wd1,wd2,wd3,wd4,wd5⟩:=Z4w da2 (j:=j) (n:=n) (V:=V) (by omega) hVb hlt2;obtain ⟨U,hUe⟩:=Yx (S.dval ((acc2.drop j).take (n+1)));rw [<- hUe] at wd1 wd3;have dwin:=Zao (Zbg da2 j) (n+1);have lwin:((acc2.drop j).take (n+1)).length=n+1:=by rw [Yq,List.length_drop];omega
 have hU0:0<=U:=by rw [hUe];exact Zi dwin
 obtain ⟨un,hun⟩:∃ q,q=acc2.getD (j+n) 0:=⟨_,rfl⟩
 obtain ⟨um,hum⟩:∃ q,q=acc2.getD (j+n1) 0:=⟨_,rfl⟩
 have bun:=Zy da2 (j+n);have bum:=Zy da2 (j+n1);rw [<- hun] at bun;rw [<- hum] at bum;have hUx:U=(un*65536+um)*65536^n1+S.psum ((acc2.drop j).take (n+1)) n1:=by
  rw [hUe,<- Zan (x:=(acc2.drop j).take (n+1)) (n:=n1+1+1) (by omega),S.psum,S.psum,Zap (by omega),Zap (by omega),Zel,Zel,<- hum,<- hn1,<- hun,hn1,Int.pow_succ];generalize (65536:Int)^n1=T;generalize S.psum ((acc2.drop j).take (n1+1+1)) n1=P
  grind
 have hU0b:=Zjj dwin n1;obtain ⟨gg,hgg⟩:∃ q,q=if 65535<(un*65536+um)/w then 65535 else (un*65536+um)/w:=⟨_,rfl⟩
 obtain ⟨kn1,kn2,kn3,kn4⟩:=Z6a hT hw hVe hV0.1 hV0.2 hUx hU0b.1 hU0b.2 (by omega) wd3 hgg;refine Zo ((Zm (op:=2) (by decide) (l8 s2 _ _ _) (Zn 1)).to_ (y:=(j:Int)) (by rw [Zj7];unfold S.u32m;omega) (Yb _)) (by decide) ?_
 show S.WS I 55 lk false _ [x,y,t,(m:Int),(n:Int),sh,H+m+4,H+m+4+m+1,(j:Int),g,o] s2 _ _ _
 have yat:∀ s g o,S.Yl I 55 lk [x,y,t,(m:Int),(n:Int),sh,H+m+4,H+m+4+m+1,(j:Int),g,o] s S.eAt (H+m+4+j) 3:=fun s g o=>(Zm (op:=1) (by decide) (l6 s _ _ _) (l8 s _ _ _)).to_ (by rw [Zau];unfold S.u32m;omega) (Yb _)
 have yatn:=fun s g o=>(Zm (op:=1) (by decide) (yat s g o) (l4 s (j:Int) g o)).to_ (y:=H+m+4+j+n) (by rw [Zau];unfold S.u32m;omega) (Yb _)
 have m1:s2.mem (H+m+4+j+n)=un:=by
  have:=hD2.r (j+n) (by omega);rw [show H+m+4+((j+n:Nat):Int)=H+m+4+j+n by omega] at this;rw [this,hun]
 have m2:s2.mem (H+m+4+j+n-1)=um:=by
  have:=hD2.r (j+n1) (by omega);rw [show H+m+4+((j+n1:Nat):Int)=H+m+4+j+n-1 by omega] at this;rw [this,hum]
 have m3:s2.mem (H+m+4+m+1+n-1)=w:=by
  have:=hD2.v n1 (by omega);rw [show H+m+4+m+1+((n1:Nat):Int)=H+m+4+m+1+n-1 by omega] at this;rw [this,hw2]
 have y1:=Zlt (n:=0) (p:=H+m+4+j+n) (yatn s2 g o) (by unfold S.u32m;omega) (Za7 (hdat _ (by omega) (by omega)));have y2:=Zlt (n:=-1) (p:=H+m+4+j+n-1) (yatn s2 g o) (by unfold S.u32m;omega) (Za7 (hdat _ (by omega) (by omega)));have y3:=Zlt (n:=-1) (p:=H+m+4+m+1+n-1) ((Zm (op:=1) (by decide) (l7 s2 (j:Int) g o) (l4 s2 (j:Int) g o)).to_ (y:=H+m+4+m+1+n) (by rw [Zau];unfold S.u32m;omega) (Yb _)) (by unfold S.u32m;omega) (Za7 (hdat _ (by omega) (by omega)));rw [m1] at y1;rw [m2] at y2;rw [m3] at y3;refine Zo ((Z31 (op:=5) (fun e=>by omega) (Zm (op:=8) (by decide) (Zm (op:=10) (by decide) y1 (Zn 16)) y2) y3).to_ (y:=(un*65536+um)/w) (by rw [Z4y bun,Z0b bun bum,Z7q]) (Yb _)) (by decide) ?_
 show S.WS I 55 lk false _ [x,y,t,(m:Int),(n:Int),sh,H+m+4,H+m+4+m+1,(j:Int),(un*65536+um)/w,o] s2 _ _ _
 have cont:∀ (C3:Nat) (Q:List Int->S.Vw->Nat->Prop),C3<=C2+60->(∀ s3 g3 o3 acc3 qs3 C4,C4<=C2+W->S.DvS st s3 H m n j qs3 acc3 vd->j+qs3.length=m-n+1->qs3.length=qs.length+1->acc3.length=m+1->S.Digs acc3->S.Digs qs3->X=S.dval acc3+S.dval qs3*65536^j*V->S.dval acc3<V*65536^j ->
  S.WS I 55 lk false [] [x,y,t,(m:Int),(n:Int),sh,H+m+4,H+m+4+m+1,(j:Int),g3,o3] s3 (C4-3) Q R) ->
  S.WS I 55 lk false [S.sAs 10 (S.eF S.kNTake [S.eAt,S.eL 7,S.eL 4,S.eL 9]),S.sWh (S.eL 10) [S.sAs 9 (S.eSub (S.eL 9) (S.eC 1)),S.sWhen (S.eF S.kNBack [S.eAt,S.eL 7,S.eL 4]) [S.sAs 10 (S.eC 0)]],S.sPut (S.eAdd S.eH (S.eL 8)) 2 (S.eDg (S.eL 9))]
   [x,y,t,(m:Int),(n:Int),sh,H+m+4,H+m+4+m+1,(j:Int),gg,o] s2 C3 Q R:=fun C3 Q hC3 hend=>by
  obtain ⟨r1,r2⟩:=Z0a hN hD2 hla2 hlv hj hdat;have hreal:=Zsx hN r1 r2 dwin dvt lwin lvt hn (by omega) ⟨kn1,kn2⟩;refine Z4x (N:=100+90*n) (T:=fun s3 k3=>∃ win b,S.RwS s2 s3 (H+m+4+j) win/\S.Digs win/\win.length=n+1/\(b=0\/b=1)/\s3.reg 4=b/\S.dval win=U-gg*V+b*65536^(n+1)) (d:=23)
   (Za (yat s2 _ _) (Za (l7 s2 _ _ _) (Za (l4 s2 _ _ _) (Za (l9 s2 _ _ _) Zg)))) (by decide) (by simp) (fun st1 hs1=>?_) (by decide) (fun s3 k3 hT3=>?_)
  ·exact (hreal st1 hs1).mono fun _ o k hh=>by
    obtain ⟨s,win,b,e,q1,q2,q3,q4,q5,q6,q7⟩:=hh;exact ⟨s,e,q7,win,b,q1,q2,q3,q4,q5,by rw [q6,hUe,hV]⟩
  obtain ⟨win,b,q1,q2,q3,q4,q5,q6⟩:=hT3;rw [q5]
  show S.WS I 55 lk false _ [x,y,t,(m:Int),(n:Int),sh,H+m+4,H+m+4+m+1,(j:Int),gg,b] s3 _ _ _
  obtain ⟨w1,w2,w3,w4⟩:=Zqb hla2 hj q3;have hw3:=Zqa hD2 q1 q3 hj hla2 (by omega);have db:=Ze1 (Zao da2 j) (Ze1 q2 (Zbg da2 (j+n+1)));refine Z2c hN (by decide) hw3 w1 hlv db dv hj hn (by omega) hV hVp hU0 ⟨kn1,kn2⟩ (by
   rw [w4];rcases q4 with e | e
   ·exact .inl ⟨e,by rw [q6,e];omega⟩
   ·exact .inr ⟨e,by rw [q6,e,Int.one_mul]⟩) kn3 kn4 hdat fun g' s' acc' hg' hD' hla' da' ht' hd' hv' hn' hlt'=>?_
  have hr26:s'.reg 26=H:=by rw [hD'.reg 26 (by decide)];exact h26
  have hdj:=hdat (H+2+j) (by omega) (by omega);refine Zb7 (x:=4*g') (p:=H+2+j) ((Zm (op:=1) (by decide) ((Zxe (n:=26) (by decide)).to_ hr26 (Yb _)) (l8 s' _ _ _)).to_ (y:=H+j) (by rw [Zau];unfold S.u32m;omega) (Yb _)) ((Zm (op:=10) (by decide) (Zm (op:=7) (by decide) (l9 s' _ _ _) (Zn 65535)) (Zn 2)).to_ (by rw [Zfq ⟨by omega,by omega⟩];omega) (Yb _)) (by decide) (by decide) (by unfold S.u32m;omega) hdj.2 ?_;have hD4:=Z2b hD' g' (by omega);have e1:acc'=acc2.take j++((acc'.drop j).take (n+1)++acc2.drop (j+n+1)):=by
   rw [w2] at ht';rw [w3] at hd';rw [<- ht',<- hd',show j+n+1=j+(n+1) by omega,<- List.drop_drop,Yao,Yao]
  have d1:=congrArg S.dval e1;have l1:(acc2.take j).length=j:=by rw [Yq];omega
  have l2:((acc'.drop j).take (n+1)).length=n+1:=by rw [Yq,List.length_drop];omega
  have e3:acc2.drop (j+n+1)=(acc2.drop j).drop (n+1):=by rw [List.drop_drop,show j+n+1=j+(n+1) by omega]
  rw [Zgn,Zgn,l1,l2,hv',e3,wd2,Int.mul_zero,Ybs] at d1;have pj:(0:Int)<65536^j:=Yaw (by decide);refine (hend _ g' 0 acc' (g'::qs) (C2+W) (Yb _) hD4 (by rw [Yi];omega) rfl hla' da' (fun d hd=>(List.mem_cons.1 hd).elim (fun e=>by rw [e];exact hg') (dq d)) ?_ ?_).more (by omega)
  ·rw [hX2,wd1,d1]
   show _=_+(g'+65536*S.dval qs)*65536^j*V
   rw [Int.pow_succ];generalize (65536:Int)^j=Bj at *;generalize S.dval qs=dqs at *;generalize S.dval (acc2.take j)=lo at *;clear hD2 hD' hD4 hw3 q1 q6 hdj hr26 e1 e3
   grind
  ·rw [d1]
   have h1:65536^j*(U-g'*V)<=65536^j*(V-1):=Int.mul_le_mul_of_nonneg_left (by omega) (by omega);have h2:(65536:Int)^j*(V-1)=V*65536^j-65536^j:=by
    generalize (65536:Int)^j=Bj
    grind
   omega
 have yg:=Zm (op:=14) (by decide) (Zn 65535) (l9 s2 (j:Int) ((un*65536+um)/w) o);rw [Zcl,show (65535%4294967296:Int)=65535 from rfl] at yg;refine Zp yg (by decide) (fun hz=>?_) (fun hnz=>?_)
 ·have hle:¬ 65535<(un*65536+um)/w:=fun q=>by rw [if_pos q] at hz;cases hz
  rw [if_neg hle] at hgg;rw [<- hgg];refine cont _ _ (by omega) fun s3 g3 o3 acc3 qs3 C4 c1 c2 c3 c4 c5 c6 c7 c8 c9=>?_
  refine Z5 (k2:=j) (by omega) ⟨j,g3,o3,qs3,acc3,rfl,rfl,c2,c3,c5,c6,c7,c8,c9,?_⟩;rw [c4,Ycg,Nat.one_mul];omega
 ·have hlt3:65535<(un*65536+um)/w:=Classical.byContradiction fun q=>hnz (if_neg q)
  rw [if_pos hlt3] at hgg;refine Zo (Zn 65535) (by decide) (Zbk 3 ?_)
  show S.WS I 55 lk false _ [x,y,t,(m:Int),(n:Int),sh,H+m+4,H+m+4+m+1,(j:Int),65535,o] s2 _ _ _
  rw [<- hgg];refine cont _ _ (by omega) fun s3 g3 o3 acc3 qs3 C4 c1 c2 c3 c4 c5 c6 c7 c8 c9=>?_
  refine Z5 (k2:=j) (by omega) ⟨j,g3,o3,qs3,acc3,rfl,rfl,c2,c3,c5,c6,c7,c8,c9,?_⟩;rw [c4,Ycg,Nat.one_mul];omega
end
end
section
open Go.RowKit
theorem Z6b {env:List Int}(h:(env.length:Int)=11):∃ a b c d e f g i j k l,env=[a,b,c,d,e,f,g,i,j,k,l]:=by
 obtain ⟨a,r,rfl⟩:∃ a r,env=a::r:=by cases env with | nil=>simp at h | cons a r=>exact ⟨a,r,rfl⟩
 obtain ⟨b,r,rfl⟩:∃ a r',r=a::r':=by cases r with | nil=>simp at h | cons a r=>exact ⟨a,r,rfl⟩
 obtain ⟨c,r,rfl⟩:∃ a r',r=a::r':=by cases r with | nil=>simp at h | cons a r=>exact ⟨a,r,rfl⟩
 obtain ⟨d,e,f,g,i,j,k,l,rfl⟩:=Z61 (env:=r) (by simp only [Yi] at h;omega);exact ⟨a,b,c,d,e,f,g,i,j,k,l,rfl⟩
theorem Zrd {a b:Nat}(h:a<=b):(65536:Int)^a<=65536^b:=by
 obtain ⟨c,rfl⟩:=Nat.le.dest h;rw [Int.pow_add];have h1:(0:Int)<65536^a:=Yaw (by decide);have h2:(0:Int)<65536^c:=Yaw (by decide);have:=Int.mul_le_mul_of_nonneg_left (show 1<=(65536:Int)^c by omega) (Ya2 h1);omega
section
variable {I:S.Img}(hN:S.NSegs I)
include hN
theorem Zwg {dep lk:Int}{env:List Int}{st s:S.Vw}{C:Nat}{Q:List Int->S.Vw->Nat->Prop}{R:S.BO->Nat->Prop}{r:List S.BS}{H neg val:Int}{acc:List Int}{M N:Nat}{en el:S.BE}{K:Nat}(hneg:neg=0\/neg=1)(hs:S.HpS st s H acc)(h26:st.reg 26=H)(hd:S.Digs acc)(hl:acc.length<=1000)(hdat:∀ j:Nat,j<acc.length+2->S.Dat I (H+j))(hv:S.dval acc=val)(hM:acc.length+2<=M)
 (hy:S.Yls I dep lk env s [en,el] [neg,(acc.length:Int)] K) (hde:S.dEs [en,el]<=20) (hdep:19<=dep) (hC:C+K+(300+60*acc.length)+14<=N) (hR:∀ o k,S.NumR I st H neg val M N o k->R o k):S.WS I dep lk false (S.sVal (S.eF S.kNFin [en,el])::r) env s C Q R:=by
 have hat:=Zz6 (I:=I) hs h26 hd hl hdat;refine Zlu (T:=S.FinR s H neg acc (300+60*acc.length)) hy hde (by simp) (Zn7 hN hneg hat) hdep fun o k hT=>?_
 have hT0:=hT;obtain ⟨st',rfl,hk,_⟩:=hT;intro c hc;exact hR _ _ ⟨s,acc,hat,hv,fun a ha=>hs.out_ a (by omega),hs.reg,hs.inp,hs.out,Zjg hT0 (by omega)⟩
theorem Z2f {lk:Int}{s:S.Vw}{C:Nat}{Q:List Int->S.Vw->Nat->Prop}{R:S.BO->Nat->Prop}{H x y t g o v P:Int}{m n k:Nat}{acc:List Int}{rest:List S.BS}(h26:s.reg 26=H)(hr:∀ i:Nat,i<m+1->s.mem (H+m+4+i)=acc.getD i 0)(hla:acc.length=m+1)(da:S.Digs acc)(hnm:n<=m)(hm:m<=900)(hk:k<=15)(hP:P=2^k)(hlt:S.dval acc<65536^n)(hdat:∀ a,H<=a->a<H+2*m+n+6->S.Dat I a)
 (hrest:∀ g s2 racc,S.HpS s s2 H racc->racc.length=n->S.Digs racc->P*S.dval racc+acc.getD 0 0%P=S.dval acc->S.WS I 55 lk false rest [x,y,t,(m:Int),(n:Int),(k:Int),H+m+4,v,(n:Int),g,o] s2 (C+10+60*n) Q R) :
 S.WS I 55 lk false (S.sWh (S.eLt (S.eL 8) (S.eL 4))
 [S.sAs 9 (S.eB 8 (S.eShl (S.eM (S.eAdd S.eAt (S.eC 1)) 0) 16) (S.eM S.eAt 0)),
  S.sPut (S.eAdd S.eH (S.eL 8)) 2 (S.eDg (S.eB 11 (S.eL 9) (S.eL 5))),
  S.sInc 8]::rest) [x,y,t,(m:Int),(n:Int),(k:Int),H+m+4,v,0,g,o] s C Q R:=by
 have hsz:=hN.ok.size2;have hA0:=(hdat H (Y4 _) (by omega)).1;have hAl:=(hdat (H+2*m+n+5) (by omega) (by omega)).2.1;have hPb:=Zk5 hk;rw [<- hP] at hPb;have hzn:acc.getD n 0=0:=by
  have h1:=Zc9 da hlt;have h2:=Zc9 da (n:=n+1) (Int.lt_of_lt_of_le hlt (Zrd (by omega)));rw [S.psum] at h2;have h3:=Zy da n;have hp:(0:Int)<65536^n:=Yaw (by decide);refine Classical.byContradiction fun c=>?_
  have:=Int.mul_le_mul_of_nonneg_right (show 1<=acc.getD n 0 by omega) (Ya2 hp);omega
 refine Zfk (by decide) (fun env s2 C2 q=>∃ (i:Nat) (g:Int) (racc:List Int),env=[x,y,t,(m:Int),(n:Int),(k:Int),H+m+4,v,(i:Int),g,o]/\q=n-i/\i<=n/\racc.length=i/\S.Digs racc/\S.HpS s s2 H racc/\P*S.dval racc+acc.getD 0 0%P=S.psum acc i+(acc.getD i 0%P)*65536^i/\C2<=C+60*i) (k0:=n)
  ⟨0,g,[],rfl,rfl,Nat.zero_le _,rfl,(fun d hd=>by cases hd),Zmh (.refl _),by show P*0+_=0+_*1;simp,by omega⟩ ?_
 rintro env s2 C2 q ⟨i,g,racc,rfl,rfl,hi,hlr,hdr,hS,hinv,hC⟩;have l8:∀ s i g,S.Yl I 55 lk [x,y,t,(m:Int),(n:Int),(k:Int),H+m+4,v,i,g,o] s (S.eL 8) i 1:=fun s i g=>Zq 8
 have l4:∀ s i g,S.Yl I 55 lk [x,y,t,(m:Int),(n:Int),(k:Int),H+m+4,v,i,g,o] s (S.eL 4) n 1:=fun s i g=>Zq 4
 have l5:∀ s i g,S.Yl I 55 lk [x,y,t,(m:Int),(n:Int),(k:Int),H+m+4,v,i,g,o] s (S.eL 5) k 1:=fun s i g=>Zq 5
 have l6:∀ s i g,S.Yl I 55 lk [x,y,t,(m:Int),(n:Int),(k:Int),H+m+4,v,i,g,o] s (S.eL 6) (H+m+4) 1:=fun s i g=>Zq 6
 have l9:∀ s i g,S.Yl I 55 lk [x,y,t,(m:Int),(n:Int),(k:Int),H+m+4,v,i,g,o] s (S.eL 9) g 1:=fun s i g=>Zq 9
 have y1:=Zm (op:=14) (by decide) (l8 s2 (i:Int) g) (l4 s2 (i:Int) g);rw [Zcl] at y1;refine ⟨_,_,y1,fun hz=>?_,fun hnz=>?_⟩
 ·have hiE:i=n:=Classical.byContradiction fun q=>by rw [if_pos (by omega)] at hz;cases hz
  subst hiE;refine (hrest g s2 racc hS hlr hdr ?_).more (by omega);rw [hinv,hzn,Zc9 da hlt];simp
 ·have hlt2:i<n:=Classical.byContradiction fun q=>hnz (if_neg (by omega))
  have m1:s2.mem (H+m+4+i+1)=acc.getD (i+1) 0:=by
   rw [hS.out_ _ (by omega)];have:=hr (i+1) (by omega);rw [show H+m+4+((i+1:Nat):Int)=H+m+4+i+1 by omega] at this;exact this
  have m0:s2.mem (H+m+4+i)=acc.getD i 0:=by
   rw [hS.out_ _ (by omega)];exact hr i (by omega)
  have ba:=Zy da (i+1);have bb:=Zy da i;have yat:=(Zm (op:=1) (by decide) (l6 s2 (i:Int) g) (l8 s2 (i:Int) g)).to_ (y:=H+m+4+i) (by rw [Zau];unfold S.u32m;omega) (Yb _);have yat1:=(Zm (op:=1) (by decide) yat (Zn 1)).to_ (y:=H+m+4+i+1) (by rw [Zau];unfold S.u32m;omega) (Yb _);have ya:=Zlt (n:=0) (p:=H+m+4+i+1) yat1 (by unfold S.u32m;omega) (Za7 (hdat _ (by omega) (by omega)));have yb:=Zlt (n:=0) (p:=H+m+4+i) yat (by unfold S.u32m;omega) (Za7 (hdat _ (by omega) (by omega)));rw [m1] at ya;rw [m0] at yb;have hdig:=Z2a hk hP ba bb;obtain ⟨a,ha⟩:=Yx (acc.getD (i+1) 0);obtain ⟨b,hb⟩:=Yx (acc.getD i 0);rw [<- ha] at ba ya hdig;rw [<- hb] at bb yb hdig;refine Zo ((Zm (op:=8) (by decide) (Zm (op:=10) (by decide) ya (Zn 16)) yb).to_ (y:=a*65536+b) (by rw [Z4y ba,Z0b ba bb]) (Yb _)) (by decide) ?_
  show S.WS I 55 lk false _ [x,y,t,(m:Int),(n:Int),(k:Int),H+m+4,v,(i:Int),a*65536+b,o] s2 _ _ _
  have hr26:s2.reg 26=H:=by rw [hS.reg 26 (by decide)];exact h26
  obtain ⟨d,hd⟩:=Yx ((a*65536+b)/P);rw [<- hd] at hdig;have hd0:0<=d:=by rw [hd];exact Yb1 (by omega) (by omega)
  have hd1:d<4294967296:=by
   rw [hd];exact Int.lt_of_le_of_lt (Int.ediv_le_self _ (by omega)) (by omega)
  have hdi:=hdat (H+2+i) (by omega) (by omega);refine Zb7 (x:=4*(d%65536)) (p:=H+2+i) ((Zm (op:=1) (by decide) ((Zxe (n:=26) (by decide)).to_ hr26 (Yb _)) (l8 s2 _ _)).to_ (y:=H+i) (by rw [Zau];unfold S.u32m;omega) (Yb _)) ((Zm (op:=10) (by decide) (Zm (op:=7) (by decide) (Zm (op:=11) (by decide) (l9 s2 _ _) (l5 s2 _ _)) (Zn 65535)) (Zn 2)).to_ (by rw [Z7t hk hP,<- hd,Zfq ⟨hd0,hd1⟩]) (Yb _)) (by decide) (by decide) (by unfold S.u32m;omega) hdi.2 ?_;have hS2:=Zgk hS (d%65536);rw [hlr] at hS2;refine Zo ((Zm (op:=1) (by decide) (l8 _ _ _) (Zn 1)).to_ (y:=((i+1:Nat):Int)) (by rw [Zau];unfold S.u32m;omega) (Yb _)) (by decide) ?_
  show S.WS I 55 lk false _ [x,y,t,(m:Int),(n:Int),(k:Int),H+m+4,v,((i+1:Nat):Int),a*65536+b,o] _ _ _ _
  refine Z5 (k2:=n-(i+1)) (by omega) ⟨i+1,_,racc++[d%65536],rfl,rfl,by omega,by rw [Yd,hlr];rfl,Zbd hdr ⟨by omega,by omega⟩,hS2,?_,by omega⟩;rw [Zbc,hlr,S.psum,<- ha,<- hb,Int.pow_succ];rw [<- hb] at hinv;generalize (65536:Int)^i=Bi at *;generalize d%65536=dd at *;generalize a%P=ap at *;generalize b%P=bp at *;generalize S.dval racc=D at *;generalize S.psum acc i=Pa at *;generalize acc.getD 0 0%P=a0 at *;clear hS hS2 ya yb yat yat1 y1 hdi m0 m1 hr26
  grind
end
theorem Zwh {I:S.Img}{st s:S.Vw}{H neg val:Int}{M M' N k:Nat}{o:S.BO}(hm:∀ a,a<H\/H+M'<=a->s.mem a=st.mem a)(hr:∀ j,¬ (4<=j/\j<=7)->s.reg j=st.reg j)(hi:s.inp=st.inp)(ho:s.out=st.out)(hM:M<=M')(h:S.NumR I s H neg val M N o k):S.NumR I st H neg val M' N o k:=by
 obtain ⟨s2,ds,h1,h2,h3,h4,h5,h6,h7⟩:=h;exact ⟨s2,ds,h1,h2,fun a ha=>(h3 a (by omega)).trans (hm a ha),fun j hj=>(h4 j hj).trans (hr j hj),h5.trans hi,h6.trans ho,h7⟩
theorem Zyz {I:S.Img}{mem:Int->Int}{H:Int}:S.NumIn I mem H 0 0 [0,0]:=⟨⟨by decide,.inl rfl,(fun d hd=>by simp at hd;rw [hd];decide),by simp,.inl ⟨rfl,rfl,rfl⟩⟩,fun p e=>by omega⟩
end
section
open Go.RowKit
def S.an (t nv nu X Y:Int):Int:=if t=0 then S.signed (if nv=nu then 0 else 1) (X/Y) else S.signed nv (X%Y)
theorem Zjk {I:S.Img}{st s:S.Vw}{H v neg:Int}{m n j:Nat}{qs acc vd ds:List Int}(h:S.NumIn I st.mem H v neg ds)(hs:S.DvS st s H m n j qs acc vd):S.NumAt I s.mem v neg ds:=h.1.same fun p e j hj=>hs.out_ _ (by have:=h.2 p e;omega)
theorem Zy0 {y:List Int}{n n1 k:Nat}{P:Int}{vd:List Int}(dy:S.Digs y)(hT:S.Top y n)(hn:n=n1+1)(hk:k<=15)(hP:P=2^k)(h1:32768<=y.getD n1 0*P)(h2:y.getD n1 0*P<65536)(dv:S.Digs vd)(hl:vd.length=n+1)(hv:S.dval vd=S.dval y*P) :
 S.dval (vd.take n)=S.dval y*P/\S.dval y*P<65536^n/\32768<=vd.getD n1 0:=by
 have hy:S.dval y=S.psum y n1+y.getD n1 0*65536^n1:=by
  rw [Zdf hT,<- Zan (x:=y.take n) (n:=n1+1) (by rw [Yq];omega),S.psum,Zap (by omega)]
  congr 1
  exact Zdg _ fun j hj=>Zap (by omega)
 have hb:=Zjj dy n1;have hp:(0:Int)<65536^n1:=Yaw (by decide);have hPb:=Zk5 hk;rw [<- hP] at hPb;have hPK:(65536:Int)=P*2^(16-k):=by rw [hP,<- Int.pow_add,show k+(16-k)=16 by omega];rfl
 generalize (2:Int)^(16-k)=K at hPK;obtain ⟨g,hg⟩:=Yx (y.getD n1 0);rw [<- hg] at hy h1 h2;have hgK:(g+1)*P<=65536:=by
  have h3:g<K:=by
   refine Classical.byContradiction fun c=>?_
   have:=Int.mul_le_mul_of_nonneg_right (show K<=g by omega) (show 0<=P by omega);have e:K*P=65536:=by rw [hPK,Int.mul_comm]
   omega
  have h4:=Int.mul_le_mul_of_nonneg_right (show g+1<=K by omega) (show 0<=P by omega);have e:K*P=65536:=by rw [hPK,Int.mul_comm]
  omega
 obtain ⟨T,hTe⟩:=Yx ((65536:Int)^n1);have hpow:(65536:Int)^n=65536*T:=by rw [hn,Int.pow_succ,<- hTe,Int.mul_comm]
 rw [<- hTe] at hy hb hp;have hlt:S.dval y*P<65536^n:=by
  have h3:S.dval y+1<=(g+1)*T:=by
   have e:(g+1)*T=g*T+T:=by grind
   omega
  have h4:=Int.mul_le_mul_of_nonneg_right h3 (show 0<=P by omega);have e1:(S.dval y+1)*P=S.dval y*P+P:=by grind
  have e2:(g+1)*T*P=(g+1)*P*T:=by grind
  have h5:=Int.mul_le_mul_of_nonneg_right hgK (show 0<=T by omega);omega
 have hps:=Zc9 dv (n:=n) (by rw [hv];exact hlt);refine ⟨?_,hlt,?_⟩
 ·rw [<- Zan (x:=vd.take n) (n:=n) (by rw [Yq];omega),<- hv,<- hps]
  exact Zdg _ fun j hj=>Zap hj
 ·rw [hn,S.psum,<- hTe,hv] at hps
  have hb2:=Zjj dv n1;rw [<- hTe] at hb2;have h3:32768*T<=S.dval y*P:=by
   have h4:=Int.mul_le_mul_of_nonneg_right h1 (show 0<=T by omega);have h5:=Int.mul_le_mul_of_nonneg_right (show g*T<=S.dval y by omega) (show 0<=P by omega);have e:g*P*T=g*T*P:=by grind
   omega
  refine Classical.byContradiction fun c=>?_
  have h4:=Int.mul_le_mul_of_nonneg_right (show vd.getD n1 0<=32767 by omega) (show 0<=T by omega);omega
section
variable {I:S.Img}(hN:S.NSegs I)
include hN
theorem Zwi {st:S.Vw}{H v u nv nu t:Int}{x y:List Int}(hx:S.NumIn I st.mem H v nv x)(hy:S.NumIn I st.mem H u nu y)(ht:t=0\/t=1)(h26:st.reg 26=H)(hY:0<S.dval y)(hdat:∀ a,H<=a->a<H+2*x.length+y.length+7->S.Dat I a)(hfx:x.length<=900)(hfy:y.length<=900){W:Nat}(hW:W=850+250*y.length) :
 ∀ st1,S.Sim st st1->S.Real I S.kNDiv false (st1.args [v,u,t]) 81 (fun _ o k=>S.ao I st H (S.an t nv nu (S.dval x) (S.dval y)) (2*x.length+y.length+7) (5000+3000*(x.length+y.length)+(x.length+1)*W) o k):=fun st1 hs1=>by
 obtain ⟨iF,hF⟩:=hN.div;obtain ⟨XL,hXL⟩:∃ L,L=x.length:=⟨_,rfl⟩
 obtain ⟨YL,hYL⟩:∃ L,L=y.length:=⟨_,rfl⟩
 obtain ⟨NN,hNN⟩:∃ N,N=5000+3000*(XL+YL)+(XL+1)*W:=⟨_,rfl⟩
 obtain ⟨z,hz⟩:=Yx (S.an t nv nu (S.dval x) (S.dval y));rw [<- hXL,<- hYL] at hdat ⊢;rw [<- hXL] at hfx;rw [<- hYL] at hfy hW;rw [<- hNN,<- hz];have hr:=Zcy hN.ok S.rNDiv (by kernel_rfl) hF (dep:=55) (by decide) (st1.args [v,u,t]) (S.ao I st H z (2*XL+YL+7) NN) fun lk env hl hp=>?_
 ·exact hr
 obtain ⟨e0,e1,e2,e3,e4,e5,e6,e7,e8,e9,e10,rfl⟩:=Z6b hl;have h0:e0=v:=hp 0 (show (0:Int)<3 by decide);have h1:e1=u:=hp 1 (show (1:Int)<3 by decide);have h2:e2=t:=hp 2 (show (2:Int)<3 by decide);subst h0 h1 h2;have hs:S.Sim st (st1.args [e0,e1,e2]):=hs1.args (by simp);obtain ⟨s1,hs1e⟩:∃ s,s=st1.args [e0,e1,e2]:=⟨_,rfl⟩
 rw [<- hs1e] at hs ⊢;have hm:s1.mem=st.mem:=hs.mem;have hx':S.NumIn I s1.mem H e0 nv x:=by rw [hm];exact hx
 have hy':S.NumIn I s1.mem H e1 nu y:=by rw [hm];exact hy
 have h26':s1.reg 26=H:=by rw [hs.reg 26 (by decide)];exact h26
 have dx:S.Digs x:=hx.1.dig;have dy:S.Digs y:=hy.1.dig;have sx:=hx.1.sg;have sy:=hy.1.sg;have X0:=Zi dx;have hsz:=hN.ok.size2;have hA0:=(hdat H (Y4 _) (by omega)).1;have hAl:=(hdat (H+2*XL+YL+6) (by omega) (by omega)).2.1
 show S.WS I 55 lk false (S.sWhen (S.eNot (S.eF S.kNCmp [S.eL 0,S.eL 1])) [S.sWhen (S.eL 2) [S.sVal (S.eF S.kNAdd [S.eL 0,S.eC 0,S.eF S.kNNeg [S.eL 0]])],S.sVal (S.eC 0)]::_) [e0,e1,e2,e3,e4,e5,e6,e7,e8,e9,e10] s1 8 _ _
 refine Zp (Zhk (Zc3 (Za (Zq 0) (Za (Zq 1) Zg)) (by simp) (Zji hN hx'.1 hy'.1) (by decide)) (Zn 0)) (by decide) (fun hc=>?_) (fun hc=>?_)
 rotate_left
 ·-- the first one is less
  have hlt:S.dval x<S.dval y:=by
   refine Classical.byContradiction fun q=>hc (if_neg ?_)
   unfold S.cmpV;rw [if_neg q]
   split <;> decide
  refine Zp (x:=e2) (Zq 2) (by decide) (fun ht0=>?_) (fun ht1=>?_)
  ·refine Zfe (Zn 0) (by decide) fun st2 c2 h2 hc2=>?_
   have hz0:z=0:=by
    rw [hz,S.an,if_pos ht0,Int.ediv_eq_zero_of_lt X0 hlt];unfold S.signed
    split <;> rfl
   refine ⟨0,0,.inl rfl,Y4 _,by rw [hz0];rfl,st,[],⟨h26,(fun d hd=>by cases hd),by simp,fun j hj=>hdat _ (by omega) (by simp at hj;omega),fun i hi=>absurd hi (Nat.not_lt_zero _)⟩,rfl,fun _ _=>rfl,fun _ _=>rfl,rfl,rfl,_,rfl,?_,.inl ⟨by show (0:Int)<536870912+0;decide,Zj _ _ _,?_⟩⟩
   ·rw [hNN];omega
   ·exact ((hs.trans h2).set4 _)
  ·have e21:e2=1:=by
    rcases ht with e | e
    ·exact absurd e ht1
    ·exact e
   refine Zq6 hN (d:=55) (N:=1000+800*max XL 2) (M:=max XL 2+3) (val:=S.dval x) sx X0 ?_ hs (Za (Zq 0) (Za (Zn 0) (Za (Zc3 (Za (Zq 0) Zg) (by simp) (Zbe hN hx'.1) (by decide)) Zg))) (by decide) (by simp) (fun st3 hs3=>?_) (by decide) (by omega) (by rw [hNN];omega)
   ·rw [hz,S.an,if_neg (by omega),Int.emod_eq_of_lt X0 hlt]
   ·have hadd:=Zn9 hN hx' (Zyz (I:=I) (mem:=s1.mem) (H:=H)) sx h26' (fun j hj=>hdat _ (by omega) (by rw [<- hXL] at hj;simp at hj;omega)) (by rw [<- hXL];simp;omega) st3 hs3
    rw [<- hXL] at hadd;have ev:S.dval x+S.dval [0,0]=S.dval x:=by show S.dval x+0=_;omega
    rw [ev] at hadd;exact hadd
 have hge:S.dval y<=S.dval x:=by
  refine Classical.byContradiction fun q=>?_
  rw [if_pos (by unfold S.cmpV;rw [if_pos (by omega)];rfl)] at hc
  cases hc
 obtain ⟨m,hTx⟩:=Z0e x;obtain ⟨n,hTy⟩:=Z0e y;have bx:=Z0f dx hTx;have by_:=Z0f dy hTy;have hmX:m<=XL:=by rw [hXL];exact hTx.1
 have hnY:n<=YL:=by rw [hYL];exact hTy.1
 have hn0:0<n:=by
  refine Classical.byContradiction fun q=>?_
  have:n=0:=by omega
  rw [this] at by_;have h1:S.dval y<1:=by have:=by_.1;simpa using this
  omega
 obtain ⟨n1,hn1⟩:∃ n1,n=n1+1:=⟨n-1,by omega⟩
 have hnm:n<=m:=by
  refine Classical.byContradiction fun q=>?_
  have h1:=by_.2 hn0;have h2:=Zrd (show m<=n-1 by omega);omega
 refine Zo (Zc3 (Za (Zq 0) Zg) (by simp) (Zor hN hx'.1 hTx) (by decide)) (by decide) ?_
 show S.WS I 55 lk false _ [e0,e1,e2,(m:Int),e4,e5,e6,e7,e8,e9,e10] s1 _ _ _
 refine Zo (Zc3 (Za (Zq 1) Zg) (by simp) (Zor hN hy'.1 hTy) (by decide)) (by decide) ?_
 show S.WS I 55 lk false _ [e0,e1,e2,(m:Int),(n:Int),e5,e6,e7,e8,e9,e10] s1 _ _ _
 refine Zo (Zn 0) (by decide) ?_
 show S.WS I 55 lk false _ [e0,e1,e2,(m:Int),(n:Int),0,e6,e7,e8,e9,e10] s1 _ _ _
 have bg:=Zy dy n1;have hg0:y.getD n1 0≠0:=by
  have:=hTy.2.2.resolve_left (by omega);rw [show n-1=n1 by omega] at this;exact this
 have ydg:=Zc3 (I:=I) (d:=34) (dep:=55) (lk:=lk) (st:=s1) (env:=[e0,e1,e2,(m:Int),(n:Int),0,e6,e7,e8,e9,e10]) (Za (Zq 1) (Za ((Zm (op:=2) (by decide) (Zq 4) (Zn 1)).to_ (y:=(n1:Int)) (by
  show S.alu 2 (n:Int) _=_
  rw [Zj7];unfold S.u32m;omega) (Yb _)) Zg)) (by simp) (Za9 hN hy'.1 (i:=(n1:Int)) ⟨by omega,by omega⟩) (by decide)
 rw [Int.toNat_natCast] at ydg;refine Zo ydg (by decide) ?_
 show S.WS I 55 lk false _ [e0,e1,e2,(m:Int),(n:Int),0,e6,e7,e8,y.getD n1 0,e10] s1 _ _ _
 obtain ⟨g,hg⟩:=Yx (y.getD n1 0);rw [<- hg] at bg hg0 ⊢;clear ydg;refine Z2d hN ⟨by omega,bg.2⟩ fun k hk hk1 hk2=>?_
 obtain ⟨P,hP⟩:∃ P:Int,P=2^k:=⟨_,rfl⟩
 rw [<- hP] at hk1 hk2;have hPb:=Zk5 hk;rw [<- hP] at hPb;refine Zo ((Zm (op:=1) (by decide) (Zm (op:=1) (by decide) ((Zxe (n:=26) (by decide)).to_ h26' (Yb _)) (Zq 3)) (Zn 4)).to_ (y:=H+m+4) (by
  show S.alu 1 (S.alu 1 H (m:Int)) _=_
  rw [Zau,Zau];unfold S.u32m;omega) (Yb _)) (by decide) ?_
 show S.WS I 55 lk false _ [e0,e1,e2,(m:Int),(n:Int),(k:Int),H+m+4,e7,e8,g,e10] s1 _ _ _
 refine Zo ((Zm (op:=1) (by decide) (Zm (op:=1) (by decide) (Zq 6) (Zq 3)) (Zn 1)).to_ (y:=H+m+4+m+1) (by
  show S.alu 1 (S.alu 1 (H+m+4) (m:Int)) _=_
  rw [Zau,Zau];unfold S.u32m;omega) (Yb _)) (by decide) ?_
 show S.WS I 55 lk false _ [e0,e1,e2,(m:Int),(n:Int),(k:Int),H+m+4,H+m+4+m+1,e8,g,e10] s1 _ _ _
 have hxA:S.NumIn I s1.mem (H+m+4) e0 nv x:=⟨hx'.1,fun p e=>by have:=hx'.2 p e;omega⟩
 have hyA:S.NumIn I s1.mem (H+m+4+m+1) e1 nu y:=⟨hy'.1,fun p e=>by have:=hy'.2 p e;omega⟩
 refine Z1k (d:=55) (T:=S.bq s1 (H+m+4) (m+1) (S.psum x m*P) (200+500*m)) (Za (Zq 0) (Za (Zq 3) (Za (Zq 5) (Za (Zq 6) Zg)))) (by decide) (by simp) (fun st2 hs2=>Zos hN hxA (Y4 _) hk hP (by omega) (fun j hj=>hdat _ (by omega) (by omega)) st2 hs2) (by decide) fun o k1 hT=>?_
 obtain ⟨s2,acc,rfl,hw2,dacc,lacc,vacc,hk1'⟩:=hT
 show S.WS I 55 lk false _ _ s2 _ _ _
 have hyB:S.NumIn I s2.mem (H+m+4+m+1) e1 nu y:=⟨hyA.1.same fun p e j hj=>hw2.out_ _ (by have:=hy'.2 p e;omega),hyA.2⟩
 refine Z1k (d:=55) (T:=S.bq s2 (H+m+4+m+1) (n+1) (S.psum y n*P) (200+500*n)) (Za (Zq 1) (Za (Zq 4) (Za (Zq 5) (Za (Zq 7) Zg)))) (by decide) (by simp) (fun st2 hs2=>Zos hN hyB (Y4 _) hk hP (by omega) (fun j hj=>hdat _ (by omega) (by omega)) st2 hs2) (by decide) fun o k2 hT=>?_
 obtain ⟨s3,vd,rfl,hw3,dvd,lvd,vvd,hk2'⟩:=hT
 show S.WS I 55 lk false _ _ s3 _ _ _
 have hps:∀ {z:List Int} {n:Nat},S.Top z n->S.psum z n=S.dval z:=fun {z n} h=>by
  rw [Zdf h,<- Zan (x:=z.take n) (n:=n) (by rw [Yq];omega)];exact Zdg _ fun j hj=>(Zap hj).symm
 rw [hps hTx] at vacc;rw [hps hTy] at vvd;have hD:S.DvS st s3 H m n (m-n+1) [] acc vd:=by
  refine ⟨fun a ha=>?_,fun i hi=>absurd hi (Nat.not_lt_zero _),fun i hi=>?_,fun i hi=>?_,fun j hj=>?_,?_,?_⟩
  ·rw [hw3.out_ a (by omega),hw2.out_ a (by omega),hm]
  ·rw [hw3.out_ _ (by omega)]
   exact hw2.dig i (by omega)
  ·exact hw3.dig i (by omega)
  ·rw [hw3.reg j hj,hw2.reg j hj,hs.reg j hj]
  ·rw [hw3.inp,hw2.inp,hs.inp]
  ·rw [hw3.out,hw2.out,hs.out]
 obtain ⟨nv1,nv2,nv3⟩:=Zy0 dy hTy hn1 hk hP (by rw [<- hg];exact hk1) (by rw [<- hg];exact hk2) dvd lvd vvd;have hlt0:S.dval acc<S.dval y*P*65536^(m-n+1):=by
  have h1:(65536:Int)^m=65536^(n-1)*65536^(m-n+1):=by rw [<- Int.pow_add];congr 1;omega
  have h2:=by_.2 hn0;have h3:(0:Int)<65536^(m-n+1):=Yaw (by decide);have h4:=Int.mul_le_mul_of_nonneg_right h2 (Ya2 h3);have h5:(S.dval x+1)*P<=S.dval y*65536^(m-n+1)*P:=Int.mul_le_mul_of_nonneg_right (by omega) (by omega);have e1:(S.dval x+1)*P=S.dval x*P+P:=by grind
  have e2:S.dval y*65536^(m-n+1)*P=S.dval y*P*65536^(m-n+1):=by
   generalize (65536:Int)^(m-n+1)=B
   grind
  omega
 refine Zo ((Zm (op:=1) (by decide) (Zm (op:=2) (by decide) (Zq 3) (Zq 4)) (Zn 1)).to_ (y:=((m-n+1:Nat):Int)) (by
  show S.alu 1 (S.alu 2 (m:Int) (n:Int)) _=_
  rw [Zau,Zj7];unfold S.u32m;omega) (Yb _)) (by decide) ?_
 show S.WS I 55 lk false _ [e0,e1,e2,(m:Int),(n:Int),(k:Int),H+m+4,H+m+4+m+1,((m-n+1:Nat):Int),g,e10] s3 _ _ _
 have hMW:(m-n+1)*(850+250*n)<=(XL+1)*W:=Nat.mul_le_mul (by omega) (by omega);refine Z2e hN (V:=S.dval y*P) (X:=S.dval x*P) (W:=850+250*n) h26 hD lacc lvd dacc dvd hn1 hnm (by omega) (by omega) nv1.symm nv3 vacc.symm hlt0 (fun a h1 h2=>hdat a h1 (by omega)) rfl fun g4 o4 s4 qs acc4 hD4 lqs dqs lacc4 dacc4 hval hlt4=>?_
 have P0:0<P:=by omega
 have hr0:=Zi dacc4;obtain ⟨q,hq⟩:=Yx (S.dval qs);rw [<- hq] at hval;have hPr:S.dval acc4=P*(S.dval x-q*S.dval y):=by
  generalize S.dval acc4=A at *;generalize S.dval x=X at *;generalize S.dval y=Y at *;clear hD hD4 hw2 hw3
  grind
 obtain ⟨rr,hrr⟩:=Yx (S.dval x-q*S.dval y);rw [<- hrr] at hPr;have hrr0:0<=rr:=by
  refine Classical.byContradiction fun c=>?_
  have:=Int.mul_le_mul_of_nonneg_left (show rr<=-1 by omega) (Ya2 P0);omega
 have hrr1:rr<S.dval y:=by
  refine Classical.byContradiction fun c=>?_
  have:=Int.mul_le_mul_of_nonneg_left (show S.dval y<=rr by omega) (Ya2 P0);have e:P*S.dval y=S.dval y*P:=Int.mul_comm _ _;omega
 obtain ⟨hdv,hmd⟩:=Zzz hY (show S.dval x=rr+q*S.dval y by omega) hrr0 hrr1;have h26_4:s4.reg 26=H:=by rw [hD4.reg 26 (by decide)];exact h26
 have hb4:∀ (neg val:Int) (N:Nat) (M:Nat),M<=2*XL+YL+7->(neg=0\/neg=1)->0<=val->S.signed neg val=z->∀ o k,S.NumR I s4 H neg val M N o k->S.ao I st H z (2*XL+YL+7) N o k:=fun neg val N M hM hn hv hz2 o k h=>⟨neg,val,hn,hv,hz2,Zwh (fun a ha=>hD4.out_ a (by omega)) hD4.reg hD4.inp hD4.out hM h⟩
 refine Zp (x:=if e2=0 then 1 else 0) (Zhk (Zq 2) (Zn 0)) (by decide) (fun ht0=>?_) (fun ht1=>?_)
 rotate_left
 ·have e20:e2=0:=Classical.byContradiction fun c=>ht1 (if_neg c)
  obtain ⟨sg,hsg⟩:∃ n:Int,n=(if nv=nu then 0 else 1):=⟨_,rfl⟩
  have hsg01:sg=0\/sg=1:=by rw [hsg];split <;> omega
  refine Zwg hN (N:=NN) (M:=m-n+3) (acc:=qs) (val:=q) (neg:=sg) (st:=s4) hsg01 ⟨fun a _=>rfl,fun j hj=>by have:=hD4.q j hj;rw [show H+2+((0:Nat):Int)+j=H+2+j by omega] at this;exact this,fun _ _=>rfl,rfl,rfl⟩ h26_4 dqs (by omega) (fun j hj=>hdat _ (by omega) (by omega)) hq.symm (by omega)
   (Za ((Zm (op:=9) (by decide) (Zc3 (Za (Zq 0) Zg) (by simp) (Zbe hN (Zjk hx hD4)) (by decide)) (Zc3 (Za (Zq 1) Zg) (by simp) (Zbe hN (Zjk hy hD4)) (by decide))).to_ (y:=sg) (by rw [Z1l sx sy,hsg]) (Yb _)) (Za ((Zm (op:=1) (by decide) (Zm (op:=2) (by decide) (Zq 3) (Zq 4)) (Zn 1)).to_ (y:=(qs.length:Int)) (by
    show S.alu 1 (S.alu 2 (m:Int) (n:Int)) _=_
    rw [Zau,Zj7];unfold S.u32m;omega) (Yb _)) Zg)) (by decide) (by decide) ?_ (hb4 _ _ _ _ (by omega) hsg01 (by rw [hq];exact Zi dqs) ?_)
  ·omega
  ·rw [hz,S.an,if_pos e20,<- hsg,hdv]
 have e21:e2=1:=by
  rcases ht with e | e
  ·rw [if_pos e] at ht0;cases ht0
  ·exact e
 refine Zo (Zn 0) (by decide) ?_
 show S.WS I 55 lk false _ [e0,e1,e2,(m:Int),(n:Int),(k:Int),H+m+4,H+m+4+m+1,0,g4,o4] s4 _ _ _
 refine Z2f hN h26_4 hD4.r lacc4 dacc4 hnm (by omega) hk hP (by omega) (fun a h1 h2=>hdat a h1 (by omega)) fun g5 s5 racc hS5 lr5 dr5 hv5=>?_
 have hrv:S.dval racc=rr:=by
  have hm0:0<=acc4.getD 0 0%P:=Yct _ (by omega);have hm1:acc4.getD 0 0%P<P:=Ycw _ P0;rw [hPr] at hv5;refine Classical.byContradiction fun c=>?_
  rcases Int.lt_or_gt_of_ne c with h | h
  ·have h1:=Int.mul_le_mul_of_nonneg_left (show S.dval racc+1<=rr by omega) (Ya2 P0)
   have e:P*(S.dval racc+1)=P*S.dval racc+P:=by grind
   omega
  ·have h1:=Int.mul_le_mul_of_nonneg_left (show rr+1<=S.dval racc by omega) (Ya2 P0)
   have e:P*(rr+1)=P*rr+P:=by grind
   omega
 have hx5:S.NumAt I s5.mem e0 nv x:=(Zjk hx hD4).same fun p e j hj=>hS5.out_ _ (by have:=hx.2 p e;omega)
 refine Zwg hN (N:=NN) (M:=n+2) (acc:=racc) (val:=rr) (neg:=nv) (st:=s4) sx hS5 h26_4 dr5 (by omega) (fun j hj=>hdat _ (by omega) (by omega)) hrv (by omega)
  (Za (Zc3 (Za (Zq 0) Zg) (by simp) (Zbe hN hx5) (by decide)) (Za ((Zq 4).to_ (y:=(racc.length:Int)) (by show (n:Int)=_;omega) (Yb _)) Zg)) (by decide) (by decide) ?_ (hb4 _ _ _ _ (by omega) sx hrr0 ?_)
 ·omega
 ·rw [hz,S.an,if_neg (by omega),hmd]
end
end
section
open Go.RowKit
namespace S
end S
section
variable {I:S.Img}(hN:S.NSegs I)
include hN
theorem Zwj {dep lk:Int}{s:S.Vw}{C:Nat}{Q:List Int->S.Vw->Nat->Prop}{R:S.BO->Nat->Prop}{behind:Bool}{p q e2:Int}{l:List S.BS}(hdep:16<=dep)(hp:(0<=p/\p<4294967296)/\p%4=2)(h:∀ s' c,c<=C+300->R (.halt 2 s') c):S.WS I dep lk behind (S.bTypes++l) [p,q,e2] s C Q R:=by
 show S.WS I dep lk behind (S.sWhen (S.eNot (S.eF S.kNInt [S.eL 0])) [S.sHlt (S.eC 2)]::S.sWhen (S.eNot (S.eF S.kNInt [S.eL 1])) [S.sHlt (S.eC 2)]::l) [p,q,e2] s C Q R
 refine Zp (Zhk (Zc3 (Za (Zq 0) Zg) (by simp) (Zk4 hN hp.1 hp.2) hdep) (Zn 0)) (by decide) (fun h=>by cases h) (fun _=>?_);exact Zwt (Zn 2) (by decide) fun st2 c2 h2 hc2=>h st2 c2 (by omega)
theorem Zwk {dep lk:Int}{s:S.Vw}{C:Nat}{Q:List Int->S.Vw->Nat->Prop}{R:S.BO->Nat->Prop}{behind:Bool}{p q e2 nv:Int}{x:List Int}{l:List S.BS}(hdep:16<=dep)(hx:S.NumAt I s.mem p nv x)(hq:(0<=q/\q<4294967296)/\q%4=2)(h:∀ s' c,c<=C+500->R (.halt 2 s') c):S.WS I dep lk behind (S.bTypes++l) [p,q,e2] s C Q R:=by
 show S.WS I dep lk behind (S.sWhen (S.eNot (S.eF S.kNInt [S.eL 0])) [S.sHlt (S.eC 2)]::S.sWhen (S.eNot (S.eF S.kNInt [S.eL 1])) [S.sHlt (S.eC 2)]::l) [p,q,e2] s C Q R
 refine Zp (Zhk (Zc3 (Za (Zq 0) Zg) (by simp) (Zjh hN hx) hdep) (Zn 0)) (by decide) (fun _=>?_) (fun h=>absurd rfl h);refine Zp (Zhk (Zc3 (Za (Zq 1) Zg) (by simp) (Zk4 hN hq.1 hq.2) hdep) (Zn 0)) (by decide) (fun h=>by cases h) (fun _=>?_);exact Zwt (Zn 2) (by decide) fun st2 c2 h2 hc2=>h st2 c2 (by omega)
end
section
variable {I:S.Img}(hN:S.NSegs I)(hG:S.CSegs I){cf:S.Cf}(hc:S.Cf.Ok I cf){T:S.Ob->Prop}
include hN hG hc
theorem Zwl {st:S.Vw}{ret:Int}{i:Nat}(hs:S.Seg I S.rPMul.name i (S.bItems S.rPMul)){H spare p q nv nu tT:Int}{x y:List Int}(h4:st.reg 4=p)(h5:st.reg 5=q)(hr:S.Rdy I cf T H spare ret st)(hx:S.NumO I cf T st.mem p nv x)(hy:S.NumO I cf T st.mem q nu y)(hfew:x.length<=40/\y.length<=40)
 (hT:∀ ρ:List S.Ob,ρ.Nodup->(∀ o∈ρ,o∈cf.O/\T o)->S.tot ρ<=tT) (htT:tT<=1000) :
 S.af I S.rPMul.name true st 106 ret (S.PrmR I st (S.ac nv x*S.ac nu y) (cf.hf<tT+(3*(x.length+y.length)+20)+spare) 2000000):=by
 have hz:S.ac nv x*S.ac nu y=S.signed (if nv=nu then 0 else 1) (S.dval x*S.dval y):=by
  unfold S.ac S.signed;rcases hx.1.sg with rfl | rfl <;> rcases hy.1.sg with rfl | rfl <;> simp [Int.neg_mul,Int.mul_neg]
 rw [hz];refine Zcg hN.ok S.rPMul (by kernel_rfl) hs (dep:=88) (by decide) st ret (S.PrmR I st _ (cf.hf<tT+(3*(x.length+y.length)+20)+spare) 2000000) fun env hl hp=>?_
 obtain ⟨e0,e1,e2,rfl⟩:=Zoa hl;have h0:e0=p:=(hp 0 (show (0:Int)<2 by decide)).trans h4;have h1:e1=q:=(hp 1 (show (1:Int)<2 by decide)).trans h5;subst h0 h1;refine Zga hN (by decide) hx.1 hy.1 ?_;have hmul:x.length*(800*y.length+900)<=40*(800*40+900):=Nat.mul_le_mul hfew.1 (by omega);refine Zpv hN hG hc hr hx hy hfew (d:=56) (M:=x.length+y.length+3) (N:=2000+200*(x.length+y.length)+x.length*(800*y.length+900)) (by decide) hT htT (by decide) (by omega) (fun s' p' q' L=>⟨[p',q'],2,Za (Zq 0) (Za (Zq 1) Zg),by simp,by decide,fun H' h26 n1 n2 hdat st1 hs1=>?_⟩) (by decide);refine (Zwv hN n1 n2 h26 (fun j hj=>hdat _ (by omega) (by omega)) (by omega) rfl st1 hs1).mono fun _ o k h=>⟨_,_,?_,?_,rfl,h⟩
 ·split <;> omega
 ·exact Yau (Zi n1.1.dig) (Zi n2.1.dig)
theorem Zog {st:S.Vw}{ret k:Int}{i:Nat}(hk:k=0\/k=1)(hs:S.Seg I (S.rPQuo k).name i (S.bItems (S.rPQuo k))){H spare p q nv nu tT:Int}{x y:List Int}(h4:st.reg 4=p)(h5:st.reg 5=q)(hr:S.Rdy I cf T H spare ret st)(hx:S.NumO I cf T st.mem p nv x)(hy:S.NumO I cf T st.mem q nu y)(hfew:x.length<=40/\y.length<=40)(hq:q≠0)(hY:0<S.dval y)
 (hT:∀ ρ:List S.Ob,ρ.Nodup->(∀ o∈ρ,o∈cf.O/\T o)->S.tot ρ<=tT) (htT:tT<=1000) :
 S.af I (S.rPQuo k).name true st 106 ret (S.PrmR I st (S.an k nv nu (S.dval x) (S.dval y)) (cf.hf<tT+(3*(x.length+y.length)+20)+spare) 2000000):=by
 refine Zcg hN.ok (S.rPQuo k) (by rcases hk with rfl | rfl <;> kernel_rfl) hs (dep:=88) (by decide) st ret (S.PrmR I st _ (cf.hf<tT+(3*(x.length+y.length)+20)+spare) 2000000) fun env hl hp=>?_
 obtain ⟨e0,e1,e2,rfl⟩:=Zoa hl;have h0:e0=p:=(hp 0 (show (0:Int)<2 by decide)).trans h4;have h1:e1=q:=(hp 1 (show (1:Int)<2 by decide)).trans h5;subst h0 h1;refine Zga hN (by decide) hx.1 hy.1 ?_
 show S.WS I 88 ret true (S.sWhen (S.eNot (S.eL 1)) [S.sHlt (S.eC 4)]::(S.bNRoom++[S.sVal (S.eF S.kNDiv [S.eL 0,S.eL 1,S.eC k])])) [e0,e1,e2] st _ _ _
 refine Zp (x:=0) ((Zhk (Zq 1) (Zn 0)).to_ (if_neg hq) (Yb _)) (by decide) (fun _=>?_) (fun h=>absurd rfl h);have hmul:(x.length+1)*(850+250*y.length)<=41*(850+250*40):=Nat.mul_le_mul (by omega) (by omega);refine Zpv hN hG hc hr hx hy hfew (d:=81) (M:=2*x.length+y.length+7) (N:=5000+3000*(x.length+y.length)+(x.length+1)*(850+250*y.length)) (by decide) hT htT (by decide) (by omega) (fun s' p' q' L=>⟨[p',q',k],4,Za (Zq 0) (Za (Zq 1) (Za ((Zn k).to_ (y:=k) (by omega) (Yb _)) Zg)),by simp,by decide,fun H' h26 n1 n2 hdat st1 hs1=>?_⟩) (show (3:Nat)<=20 by decide);exact Zwi hN n1 n2 hk h26 hY (fun a h0 h1=>hdat a h0 (by omega)) (by omega) (by omega) rfl st1 hs1
end
end
section
open Go.RowKit
def S.bt (st:S.Vw)(p:Prop)[Decidable p](o:S.BO)(k:Nat):Prop:=k<=2000000/\∃ st',o=.ret st'/\st'.reg 4=if p then 22 else 6
def S.bk (c:Int)(o:S.BO)(k:Nat):Prop:=k<=2000000/\∃ st',o=.halt c st'
section
variable {I:S.Img}{dep lk:Int}{env:List Int}{st:S.Vw}{C:Nat}{Q:List Int->S.Vw->Nat->Prop}
theorem Zmi {s0:S.Vw}{e:S.BE}{r:List S.BS}{v:Int}{K:Nat}{p:Prop}[Decidable p](he:S.Yl I dep lk env st e v K)(hd:S.dE e<=20)(hp:v≠0↔p)(hC:C+K+20<=2000000):S.WS I dep lk true (S.sTruth e::r) env st C Q (S.bt s0 p):=by
 refine Zyb he hd (fun h0=>?_) (fun h1=>?_)
 ·refine Zfe (Zn 6) (by decide) fun st2 c2 h2 hc2=>⟨by omega,_,rfl,?_⟩
  rw [if_neg (fun q=>absurd h0 (hp.2 q))];exact Zj _ _ _
 ·refine Zfe (Zn 22) (by decide) fun st2 c2 h2 hc2=>⟨by omega,_,rfl,?_⟩
  rw [if_pos (hp.1 h1)];exact Zj _ _ _
end
section
variable {I:S.Img}(hN:S.NSegs I)
include hN
theorem Zss {st:S.Vw}{ret:Int}{i:Nat}(hs:S.Seg I S.rPLess.name i (S.bItems S.rPLess)){p q nv nu:Int}{x y:List Int}(h4:st.reg 4=p)(h5:st.reg 5=q)(hx:S.NumAt I st.mem p nv x)(hy:S.NumAt I st.mem q nu y)(hfew:x.length<=40/\y.length<=40)(hx0:S.dval x=0->nv=0)(hy0:S.dval y=0->nu=0) :
 S.af I S.rPLess.name true st 106 ret (S.bt st (S.ac nv x<S.ac nu y)):=by
 refine Zcg hN.ok S.rPLess (by kernel_rfl) hs (dep:=88) (by decide) st ret (S.bt st (S.ac nv x<S.ac nu y)) fun env hl hp=>?_
 obtain ⟨e0,e1,e2,rfl⟩:=Zoa hl;have h0:e0=p:=(hp 0 (show (0:Int)<2 by decide)).trans h4;have h1:e1=q:=(hp 1 (show (1:Int)<2 by decide)).trans h5;subst h0 h1;refine Zga hN (by decide) hx hy ?_;have yn:=Zc3 (I:=I) (dep:=88) (lk:=ret) (env:=[e0,e1,e2]) (st:=st) (Za (Zq 0) Zg) (by simp) (Zbe hN hx) (by decide);have ysg:=Zhk yn (Zc3 (I:=I) (dep:=88) (lk:=ret) (env:=[e0,e1,e2]) (st:=st) (Za (Zq 1) Zg) (by simp) (Zbe hN hy) (by decide));have ycm:=Zc3 (I:=I) (dep:=88) (lk:=ret) (env:=[e0,e1,e2]) (st:=st) (Za (Zq 0) (Za (Zq 1) Zg)) (by simp) (Zji hN hx hy) (by decide);have sx:=hx.sg;have sy:=hy.sg;have dx:=Zi (show S.Digs x from hx.dig);have dy:=Zi (show S.Digs y from hy.dig)
 show S.WS I 88 ret true [S.sWhen (S.eNot S.eSigns) [S.sTruth (S.eF S.kNNeg [S.eL 0])],S.sWhen (S.eF S.kNNeg [S.eL 0]) [S.sTruth (S.eQ (S.eF S.kNCmp [S.eL 0,S.eL 1]) (S.eC 2))],S.sTruth (S.eNot (S.eF S.kNCmp [S.eL 0,S.eL 1]))] [e0,e1,e2] st _ _ _
 refine Zp (Zhk ysg (Zn 0)) (by decide) (fun hz=>?_) (fun hnz=>?_)
 ·have he:nv=nu:=by
   refine Classical.byContradiction fun c=>?_
   rw [if_neg c] at hz
   cases hz
  refine Zp yn (by decide) (fun hz0=>?_) (fun hz1=>?_)
  ·refine Zmi (Zhk ycm (Zn 0)) (by decide) ?_ (by omega)
   have hn0:nv=0:=hz0;rw [<- he,hn0];unfold S.ac S.signed S.cmpV;simp only [if_true]
   constructor
   ·intro h
    refine Classical.byContradiction fun c=>h ?_
    rw [if_neg c]
    split <;> rfl
   ·intro h
    rw [if_pos h]
    decide
  ·refine Zmi (Zhk ycm (Zn 2)) (by decide) ?_ (by omega)
   have hn1:nv=1:=sx.resolve_left hz1;have h2:(if S.cmpV x y=2%4294967296 then (1:Int) else 0)≠0↔S.dval y<S.dval x:=by
    constructor
    ·intro h
     have h3:S.cmpV x y=2%4294967296:=Classical.byContradiction fun c=>h (if_neg c)
     unfold S.cmpV at h3
     split at h3
     ·cases h3
     ·split at h3
      ·assumption
      ·cases h3
    ·intro h
     have h3:S.cmpV x y=2%4294967296:=by
      unfold S.cmpV;rw [if_neg (by omega),if_pos h];rfl
     rw [if_pos h3]
     decide
   rw [h2,<- he,hn1]
   show _↔-S.dval x < -S.dval y
   omega
 ·have he:nv≠nu:=fun c=>hnz (by rw [if_pos c];rfl)
  refine Zmi yn (by decide) ?_ (by omega);unfold S.ac S.signed;rcases sx with rfl | rfl <;> rcases sy with rfl | rfl
  ·exact absurd rfl he
  ·simp;omega
  ·have:S.dval x≠0:=fun c=>absurd (hx0 c) (by decide)
   simp;omega
  ·exact absurd rfl he
theorem Zst {r:S.BR}(hchk:S.chkB r=0)(hb:r.behind=true)(hloc:r.locals=3)(hpar:r.params=2){l:List S.BS}(hbody:r.body=S.bTypes++l){st:S.Vw}{ret:Int}{i:Nat}(hs:S.Seg I r.name i (S.bItems r)){p q:Int}(h4:st.reg 4=p)(h5:st.reg 5=q)
 (h:((0<=p/\p<4294967296)/\p%4=2)\/((∃ nv x,S.NumAt I st.mem p nv x)/\(0<=q/\q<4294967296)/\q%4=2)):S.af I r.name true st 106 ret (S.bk 2):=by
 have key:=Zcg hN.ok r hchk hs (dep:=88) (by decide) st ret (S.bk 2) fun env hl hp=>?_
 ·rw [hb,hloc] at key
  exact key
 rw [hloc] at hl;obtain ⟨e0,e1,e2,rfl⟩:=Zoa hl;have h0:e0=p:=(hp 0 (by rw [hpar];decide)).trans h4;have h1:e1=q:=(hp 1 (by rw [hpar];decide)).trans h5;subst h0 h1;rw [hbody];rcases h with h | ⟨⟨nv,x,hx⟩,hq⟩
 ·exact Zwj hN (by decide) h fun s' c hc=>⟨by omega,s',rfl⟩
 ·exact Zwk hN (by decide) hx hq fun s' c hc=>⟨by omega,s',rfl⟩
theorem Zsu {k:Int}(hk:k=0\/k=1){st:S.Vw}{ret:Int}{i:Nat}(hs:S.Seg I (S.rPQuo k).name i (S.bItems (S.rPQuo k))){p nv nu:Int}{x y:List Int}(h4:st.reg 4=p)(h5:st.reg 5=0)(hx:S.NumAt I st.mem p nv x)(hy:S.NumAt I st.mem 0 nu y):S.af I (S.rPQuo k).name true st 106 ret (S.bk 4):=by
 refine Zcg hN.ok (S.rPQuo k) (by rcases hk with rfl | rfl <;> kernel_rfl) hs (dep:=88) (by decide) st ret (S.bk 4) fun env hl hp=>?_
 obtain ⟨e0,e1,e2,rfl⟩:=Zoa hl;have h0:e0=p:=(hp 0 (show (0:Int)<2 by decide)).trans h4;have h1:e1=0:=(hp 1 (show (1:Int)<2 by decide)).trans h5;subst h0 h1;refine Zga hN (by decide) hx hy ?_
 show S.WS I 88 ret true (S.sWhen (S.eNot (S.eL 1)) [S.sHlt (S.eC 4)]::(S.bNRoom++[S.sVal (S.eF S.kNDiv [S.eL 0,S.eL 1,S.eC k])])) [e0,0,e2] st _ _ _
 refine Zp (x:=1) ((Zhk (Zq 1) (Zn 0)).to_ rfl (Yb _)) (by decide) (fun h=>by cases h) (fun _=>?_);exact Zwt (Zn 4) (by decide) fun st2 c2 h2 hc2=>⟨by omega,st2,rfl⟩
end
end
section
open Go.RowKit
def S.cr (n:Int)(m:S.Mach)(next v:Int)(m':S.Mach)(next':Int):Prop:=v=n/\m'=m/\next'=next
theorem Zsv (n:Int)(hn:0<=n/\n<=4294967295)(cb:Nat):Zq8 54 cb (.cells #[.int .u32 n] 37 (0,0)) (S.cr n):=by
 refine ⟨fun args w=>rfl,?_⟩;intro w lo b p F first half after next m hb hw n0 n1
 have HW:=Ya hw;have hc:w.cell? ⟨cb,0,none⟩=some (.int .u32 n):=by rw [Lib.cell_of_heap hb];rfl
 clear hw hb;go_enter Tryz.func54,Tryz.ntmps54
 go_wp2_with fail
 go_ret
 exact ⟨n,m,next,rfl,⟨rfl,rfl,rfl⟩,hn,⟨Y4 _,by omega⟩,⟨rfl,rfl⟩,HW.out,Below.refl _ _⟩
theorem Z2g (n:Int)(w:World):Calls Tryz.prog 25 #[.int .u32 n] w fun e w'=>e=.returned (.func (.func 54) #[] #[.pointer (some ⟨w.heap.size,0,none⟩)])/\w'=w.alloc (.cells #[.int .u32 n] 37 (0,0)):=by
 have hmf:∀ (fn:Fn) (first cap:Array Value) (w:World),(Instr.makeFunc fn first cap).run Tryz.prog w=.ok (.func fn first cap) w:=fun _ _ _ _=>rfl
 go_enter Tryz.func25,Tryz.ntmps25
 go_wp2_with fail
 go_ret
 exact ⟨rfl,rfl⟩
end
section
open Go.RowKit
attribute [local irreducible] S.aj S.nL S.nMid
section
variable {op:Int}{F:List Int}{half a:Int}(hW:S.aq op F half a)(hh:1<=half/\half<=1000000)
include hW hh
theorem Zwm {M:S.Mach}{O Q:List S.Ob}{s n v1 v2 c:Int}(hr:S.bj op F half a s M O Q n v1 v2)(hreal:S.af (S.aa true op F (a+4+2*half)) (S.kRt op) true (S.viewOf M) 106 (a+2) (S.bk c))(hc:c≠0):S.ah (M.steps_ 5000000) (a+3)=([],c):=by
 have h:=Z2t (hW.ok true) hW.lab (by omega) hr.st (by decide) hreal (fun o k h=>Y1 h.1 (by decide)) (fun t st k h=>by obtain ⟨_,st',e⟩:=h;cases e) (fun c' st k h=>by obtain ⟨_,st',e⟩:=h;cases e;exact hc);generalize M.steps_ 5000000=MM at h ⊢;obtain ⟨h1,h2⟩:=h;rcases h2 with ⟨st',k,⟨_,st2,e⟩,_⟩ | ⟨st',k,c',⟨_,st2,e⟩,hcode,hpl⟩
 ·cases e
 ·cases e
  unfold S.ah;rw [if_neg (fun h=>h h1),if_pos hpl,hcode]
theorem Zwn {M:S.Mach}{O Q:List S.Ob}{s n v1 v2:Int}{p:Prop}[Decidable p](hr:S.bj op F half a s M O Q n v1 v2)(hreal:S.af (S.aa true op F (a+4+2*half)) (S.kRt op) true (S.viewOf M) 106 (a+2) (S.bt (S.viewOf M) p)):S.ah (M.steps_ 5000000) (a+3)=([if p then 22 else 6],-1):=by
 have h:=Z2t (hW.ok true) hW.lab (by omega) hr.st (by decide) hreal (fun o k h=>Y1 h.1 (by decide)) (fun t st k h=>by obtain ⟨_,st',e,_⟩:=h;cases e) (fun c' st k h=>by obtain ⟨_,st',e,_⟩:=h;cases e);generalize M.steps_ 5000000=MM at h ⊢;obtain ⟨h1,h2⟩:=h;rcases h2 with ⟨st',k,⟨_,st2,e,e4⟩,hsee,hpl,_⟩ | ⟨st',k,c',⟨_,st2,e,_⟩,_⟩
 ·cases e
  have hv:MM.regV 4=if p then 22 else 6:=by
   rw [Zu9 (by decide) (by decide),hsee.reg 4 (by decide)];exact e4
  unfold S.ah;rw [if_neg (fun h=>h h1),if_neg (fun h=>h hpl),hv];unfold S.readV;by_cases c:p
  ·rw [if_pos c]
   rfl
  ·rw [if_neg c]
   rw [if_neg (by decide),if_neg (fun h=>by have:=h.1;revert this;decide)];rfl
 ·cases e
end
end
section
open Go.RowKit
attribute [local irreducible] S.aj S.nL S.nMid
section
variable {op:Int}{F:List Int}{half a:Int}(hW:S.aq op F half a)(hh:400<=half/\half<=1000000)
include hW hh
end
section
variable {F:List Int}{half a:Int}{M:S.Mach}{v1 v2 z1 z2 n nv nu:Int}{O Q:List S.Ob}{x y:List Int}
theorem Z2h (hW:S.aq 10 F half a)(hh:400<=half/\half<=1000000)(h:S.bo 10 F half a M v1 v2 z1 z2 O Q n nv nu x y)(hz:(if z1*z2<0 then -(z1*z2) else z1*z2)<65536^250):∃ l,S.ah (M.steps_ 5000000) (a+3)=(l,-1)/\S.Wz (z1*z2) l:=by
 obtain ⟨i,hs⟩:=Zam (op:=10) (F:=F) (size:=a+4+2*half) (r:=S.rPMul) (j:=34) rfl;have hr:=Zwl h.segs h.csegs h.rdy.ok hs (tT:=84) h.rdy.r4 h.rdy.r5 h.rdy.rdy h.nx h.ny h.few h.tot (by decide);rw [h.zx,h.zy] at hr;exact Zgm hW (by omega) h.rdy hr (Zep h hh) hz
theorem Zy1 (hW:S.aq 14 F half a)(hh:400<=half/\half<=1000000)(h:S.bo 14 F half a M v1 v2 z1 z2 O Q n nv nu x y):S.ah (M.steps_ 5000000) (a+3)=([if z1<z2 then 22 else 6],-1):=by
 obtain ⟨i,hs⟩:=Zam (op:=14) (F:=F) (size:=a+4+2*half) (r:=S.rPLess) (j:=36) rfl;have hr:=Zss h.segs hs h.rdy.r4 h.rdy.r5 (ret:=a+2) h.nx.1 h.ny.1 h.few h.x0 h.y0;have:=Zwn hW (by omega) h.rdy hr;rw [h.zx,h.zy] at this;exact this
theorem Zy2 {I:S.Img}{mem:Int->Int}{nu:Int}{y:List Int}(h:S.NumAt I mem 0 nu y):S.dval y=0:=by
 rcases h.cases with ⟨_,_,rfl⟩ | ⟨p,e,_⟩
 ·rfl
 ·omega
theorem Z4z {I:S.Img}{mem:Int->Int}{v nu z:Int}{y:List Int}(h:S.NumAt I mem v nu y)(hz:S.ac nu y=z)(h0:z≠0):v≠0/\0<S.dval y:=by
 have hd:=Zi h.dig;have hp:S.dval y≠0:=fun e=>by
  unfold S.ac S.signed at hz;rw [e] at hz
  split at hz <;> omega
 refine ⟨fun e=>?_,by omega⟩;subst e;exact hp (Zy2 h)
theorem Z0c {nv nu X Y:Int}(h1:nv=0\/nv=1)(h2:nu=0\/nu=1)(hX:0<=X)(hY:0<=Y):S.an 0 nv nu X Y=Int.tdiv (S.signed nv X) (S.signed nu Y)/\S.an 1 nv nu X Y=Int.tmod (S.signed nv X) (S.signed nu Y):=by
 unfold S.an S.signed;have e1:=Int.tdiv_eq_ediv_of_nonneg (b:=Y) hX;have e2:Int.tmod X Y=X%Y:=Int.tmod_eq_emod_of_nonneg hX;rcases h1 with rfl | rfl <;> rcases h2 with rfl | rfl <;> simp [Int.tdiv_neg,Int.neg_tdiv,Int.neg_tmod,Int.tmod_neg,e1,e2]
theorem Z2i (hW:S.aq 11 F half a)(hh:400<=half/\half<=1000000)(h:S.bo 11 F half a M v1 v2 z1 z2 O Q n nv nu x y)(h0:z2≠0)(hz:(if Int.tdiv z1 z2<0 then -(Int.tdiv z1 z2) else Int.tdiv z1 z2)<65536^250):∃ l,S.ah (M.steps_ 5000000) (a+3)=(l,-1)/\S.Wz (Int.tdiv z1 z2) l:=by
 obtain ⟨i,hs⟩:=Zam (op:=11) (F:=F) (size:=a+4+2*half) (r:=S.rPQuo 0) (j:=31) rfl;obtain ⟨k1,k2⟩:=Z4z h.ny.1 h.zy h0;have hr:=Zog h.segs h.csegs h.rdy.ok (k:=0) (.inl rfl) hs (tT:=84) h.rdy.r4 h.rdy.r5 h.rdy.rdy h.nx h.ny h.few k1 k2 h.tot (by decide);have e:S.an 0 nv nu (S.dval x) (S.dval y)=Int.tdiv z1 z2:=by rw [(Z0c h.nx.1.sg h.ny.1.sg (Zi h.nx.1.dig) (Zi h.ny.1.dig)).1,<- h.zx,<- h.zy];rfl
 rw [e] at hr;exact Zgm hW (by omega) h.rdy hr (Zep h hh) hz
theorem Z2j (hW:S.aq 12 F half a)(hh:400<=half/\half<=1000000)(h:S.bo 12 F half a M v1 v2 z1 z2 O Q n nv nu x y)(h0:z2≠0)(hz:(if Int.tmod z1 z2<0 then -(Int.tmod z1 z2) else Int.tmod z1 z2)<65536^250):∃ l,S.ah (M.steps_ 5000000) (a+3)=(l,-1)/\S.Wz (Int.tmod z1 z2) l:=by
 obtain ⟨i,hs⟩:=Zam (op:=12) (F:=F) (size:=a+4+2*half) (r:=S.rPQuo 1) (j:=33) rfl;obtain ⟨k1,k2⟩:=Z4z h.ny.1 h.zy h0;have hr:=Zog h.segs h.csegs h.rdy.ok (k:=1) (.inr rfl) hs (tT:=84) h.rdy.r4 h.rdy.r5 h.rdy.rdy h.nx h.ny h.few k1 k2 h.tot (by decide);have e:S.an 1 nv nu (S.dval x) (S.dval y)=Int.tmod z1 z2:=by rw [(Z0c h.nx.1.sg h.ny.1.sg (Zi h.nx.1.dig) (Zi h.ny.1.dig)).2,<- h.zx,<- h.zy];rfl
 rw [e] at hr;exact Zgm hW (by omega) h.rdy hr (Zep h hh) hz
end
end
section
open Go.RowKit
attribute [local irreducible] S.aj S.nL S.nMid
theorem Zy3 {F:List Int}{half a:Int}{M:S.Mach}{v1 v2 z1 z2 n nv nu:Int}{O Q:List S.Ob}{x y:List Int}(hW:S.aq 11 F half a)(hh:400<=half/\half<=1000000)(h:S.bo 11 F half a M v1 v2 z1 z2 O Q n nv nu x y)(hv:v2=0):S.ah (M.steps_ 5000000) (a+3)=([],4):=by
 subst hv;obtain ⟨i,hs⟩:=Zam (op:=11) (F:=F) (size:=a+4+2*half) (r:=S.rPQuo 0) (j:=31) rfl;have hr:=Zsu h.segs (k:=0) (.inl rfl) (ret:=a+2) hs h.rdy.r4 h.rdy.r5 h.nx.1 h.ny.1;exact Zwm hW (by omega) h.rdy hr (by decide)
theorem Zy4 (s1:ByteArray)(p1:Nat)(g1:Bool)(l1:List Int)(t1:S.Tz s1 p1 g1 l1)(k1:s1.size<=1000000)(h1:(if S.tz g1 l1<0 then -S.tz g1 l1 else S.tz g1 l1)<65536^40)(w:World)(hL:LVE w) :
 Calls Tryz.prog 23 #[.int .i64 8,.func (.func 52) #[] #[.pointer (some ⟨w.heap.size,0,none⟩)],.func (.func 54) #[] #[.pointer (some ⟨w.heap.size+1,0,none⟩)]] ((w.alloc (.cells #[.string s1] 9 (0,0))).alloc (.cells #[.int .u32 22] 37 (0,0))) (Zbf w [] 2):=by
 have hpow:(65536:Int)^40<=S.a9:=Zdl (b:=65536) (by decide) (by decide);have b1:=(Below.refl w.heap.size w).alloc (Yb _) (.cells #[.string s1] 9 (0,0));have e1:(w.alloc (.cells #[.string s1] 9 (0,0))).heap.size=w.heap.size+1:=by simp
 have b2:=b1.alloc b1.size (.cells #[.int .u32 22] 37 (0,0));have q1:=heap_alloc_new w (.cells #[.string s1] 9 (0,0));have q2:=heap_alloc_new (w.alloc (.cells #[.string s1] 9 (0,0))) (.cells #[.int .u32 22] 37 (0,0));have q3:=(((Below.refl (w.heap.size+1) (w.alloc (.cells #[.string s1] 9 (0,0)))).alloc (Nat.le_of_eq e1.symm) (.cells #[.int .u32 22] 37 (0,0))).block w.heap.size (Nat.lt_succ_self _)).trans q1;rw [e1] at q2;refine (Zz8 8 ⟨by decide,by decide⟩ _ _ w.heap.size (w.heap.size+1) _ _ _ _ (Zfo s1 p1 g1 l1 t1 k1 (by omega) _) (Zsv 22 (by decide) _) _ (hL.on b2) q3 q2).mono ?_;rintro e w' ⟨F,a,v1,v2,n1,n2,m1,m2,A,n,c,l,code,hW,hp,⟨rfl,rfl,rfl⟩,rfl,hn,hn2,hr,ho,hb⟩;have ha:=hW.lab.a0;have hsm:=hW.small;have f0:=Znt hW (by decide);obtain ⟨O1,Q1,g1,s1,⟨nv,x,x1,x2,x3,x4,x5⟩,b1',l1⟩:=Zp7 hW (by decide) f0 hp h1 (by decide) (by decide) (by omega);obtain ⟨ws1,wz1,wl1,lw1⟩:=hp;obtain ⟨r,hmv⟩:=Zwd hW (by decide) g1 (by decide) (Zl9 wz1 wl1 lw1 ⟨by omega,by omega⟩).1 (show (0:Int)<=22/\(22:Int)<=4294967295 by decide);obtain ⟨i,hs⟩:=Zam (op:=8) (F:=F) (size:=a+4+2*2000) (r:=S.rPAdd 0) (j:=30) rfl;have hx:S.NumAt (S.aa true 8 F (a+4+2*2000)) (S.viewOf (S.am m2 n2 (a+4+2000) v1 22)).mem v1 nv x:=x1.same fun p e j hj=>hmv _
 have hreal:=Zst (Z0g (hW.ok true)) (r:=S.rPAdd 0) (by kernel_rfl) rfl rfl rfl (l:=[]++(S.bNRoom++[S.sVal (S.eF S.kNSum [S.eL 0,S.eL 1,S.eC 0])])) rfl (ret:=a+2) hs r.r4 r.r5 (.inr ⟨⟨nv,x,hx⟩,by decide,by decide⟩);rw [Zwm hW (by decide) r hreal (by decide)] at ho
 cases ho
 have hn':n=0:=hn;subst hn';exact ⟨A,c,rfl,hr,b2.trans (hb.mono b2.size)⟩
end
section
open Go.RowKit
attribute [local irreducible] S.aj S.nL S.nMid
theorem Z6x:S.Tz ⟨#[55]⟩ 0 false [7]:=Zeq [] false [7] (.inl ⟨rfl,rfl⟩) (by decide) (by decide)
theorem Z6c:S.tz false [7]=7:=by decide
theorem Z6y:S.Tz ⟨#[48]⟩ 0 false [0]:=Zeq [] false [0] (.inl ⟨rfl,rfl⟩) (by decide) (by decide)
theorem Z26:S.tz false [0]=0:=by decide
theorem Z6d:S.Tz ⟨#[45,49]⟩ 1 true [1]:=Zeq [45] true [1] (.inr ⟨rfl,rfl⟩) (by decide) (by decide)
theorem Z40:S.tz true [1]=-1:=by decide
theorem Zre:S.Tz ⟨#[54,53,53,51,54]⟩ 0 false [6,3,5,5,6]:=Zeq [] false [6,5,5,3,6] (.inl ⟨rfl,rfl⟩) (by decide) (by decide)
theorem Zid:S.tz false [6,3,5,5,6]=65536:=by decide
theorem Z6e:S.Tz ⟨#[45,55]⟩ 1 true [7]:=Zeq [45] true [7] (.inr ⟨rfl,rfl⟩) (by decide) (by decide)
theorem Z41:S.tz true [7]=-7:=by decide
theorem Z7r:S.Tz ⟨#[50]⟩ 0 false [2]:=Zeq [] false [2] (.inl ⟨rfl,rfl⟩) (by decide) (by decide)
theorem Z6f:S.tz false [2]=2:=by decide
theorem Zd0:S.Tz ⟨#[49,56,52,52,54,55,52,52,48,55,51,55,48,57,53,53,49,54,49,54]⟩ 0 false [6,1,6,1,5,5,9,0,7,3,7,0,4,4,7,6,4,4,8,1]:=Zeq [] false [1,8,4,4,6,7,4,4,0,7,3,7,0,9,5,5,1,6,1,6] (.inl ⟨rfl,rfl⟩) (by decide) (by decide)
theorem Zb0:S.tz false [6,1,6,1,5,5,9,0,7,3,7,0,4,4,7,6,4,4,8,1]=18446744073709551616:=by decide
theorem Zmj:S.Tz ⟨#[52,50,57,52,57,54,55,50,57,54]⟩ 0 false [6,9,2,7,6,9,4,9,2,4]:=Zeq [] false [4,2,9,4,9,6,7,2,9,6] (.inl ⟨rfl,rfl⟩) (by decide) (by decide)
theorem Zd1:S.tz false [6,9,2,7,6,9,4,9,2,4]=4294967296:=by decide
theorem Zht:S.Wz (4294967296) [159,0,0,0,4]:=.inr ⟨by decide,[0,0,1],⟨by unfold S.DgB;decide,by decide,by decide⟩,by decide⟩
theorem Z7s:S.Wz (-1) [4294967292]:=.inl ⟨by decide,by decide,by decide⟩
theorem Z6g (w:World)(hL:LVE w):Calls Tryz.prog 23 #[.int .i64 10,.func (.func 52) #[] #[.pointer (some ⟨w.heap.size,0,none⟩)],.func (.func 52) #[] #[.pointer (some ⟨w.heap.size+1,0,none⟩)]] ((w.alloc (.cells #[.string ⟨#[54,53,53,51,54]⟩] 9 (0,0))).alloc (.cells #[.string ⟨#[54,53,53,51,54]⟩] 9 (0,0))) (Zbf w [159,0,0,0,4] (-1)) :=
 Zfr 10 ⟨by decide,by decide⟩ _ _ _ _ _ _ _ _ Zre Zre (by decide) (by decide) (by rw [Zid];exact Z7 (by decide) (by decide)) (by rw [Zid];exact Z7 (by decide) (by decide)) _ _ (fun F a v1 v2 n nv nu M O Q x y hW hT h0=>by
  rw [Zid] at hT;rw [Zid] at h0;have ez:(65536)*(65536)=(4294967296:Int):=by decide
  obtain ⟨l,e,hz⟩:=Z2h hW (by decide) hT (by rw [ez];exact Z7 (by decide) (by decide));rw [ez] at hz;rw [e,Zo0 hz Zht]) w hL
theorem Z6h (w:World)(hL:LVE w):Calls Tryz.prog 23 #[.int .i64 12,.func (.func 52) #[] #[.pointer (some ⟨w.heap.size,0,none⟩)],.func (.func 52) #[] #[.pointer (some ⟨w.heap.size+1,0,none⟩)]] ((w.alloc (.cells #[.string ⟨#[45,55]⟩] 9 (0,0))).alloc (.cells #[.string ⟨#[50]⟩] 9 (0,0))) (Zbf w [4294967292] (-1)) :=
 Zfr 12 ⟨by decide,by decide⟩ _ _ _ _ _ _ _ _ Z6e Z7r (by decide) (by decide) (by rw [Z41];exact Z7 (by decide) (by decide)) (by rw [Z6f];exact Z7 (by decide) (by decide)) _ _ (fun F a v1 v2 n nv nu M O Q x y hW hT h0=>by
  rw [Z41,Z6f] at hT;rw [Z6f] at h0;have ez:Int.tmod (-7) (2)=(-1:Int):=by decide
  obtain ⟨l,e,hz⟩:=Z2j hW (by decide) hT (by decide) (by rw [ez];exact Z7 (by decide) (by decide));rw [ez] at hz;rw [e,Zo0 hz Z7s]) w hL
theorem Z6i (w:World)(hL:LVE w):Calls Tryz.prog 23 #[.int .i64 11,.func (.func 52) #[] #[.pointer (some ⟨w.heap.size,0,none⟩)],.func (.func 52) #[] #[.pointer (some ⟨w.heap.size+1,0,none⟩)]] ((w.alloc (.cells #[.string ⟨#[49,56,52,52,54,55,52,52,48,55,51,55,48,57,53,53,49,54,49,54]⟩] 9 (0,0))).alloc (.cells #[.string ⟨#[52,50,57,52,57,54,55,50,57,54]⟩] 9 (0,0))) (Zbf w [159,0,0,0,4] (-1)) :=
 Zfr 11 ⟨by decide,by decide⟩ _ _ _ _ _ _ _ _ Zd0 Zmj (by decide) (by decide) (by rw [Zb0];exact Z7 (by decide) (by decide)) (by rw [Zd1];exact Z7 (by decide) (by decide)) _ _ (fun F a v1 v2 n nv nu M O Q x y hW hT h0=>by
  rw [Zb0,Zd1] at hT;rw [Zd1] at h0;have ez:Int.tdiv (18446744073709551616) (4294967296)=(4294967296:Int):=by decide
  obtain ⟨l,e,hz⟩:=Z2i hW (by decide) hT (by decide) (by rw [ez];exact Z7 (by decide) (by decide));rw [ez] at hz;rw [e,Zo0 hz Zht]) w hL
theorem Z42 (w:World)(hL:LVE w):Calls Tryz.prog 23 #[.int .i64 14,.func (.func 52) #[] #[.pointer (some ⟨w.heap.size,0,none⟩)],.func (.func 52) #[] #[.pointer (some ⟨w.heap.size+1,0,none⟩)]] ((w.alloc (.cells #[.string ⟨#[45,49]⟩] 9 (0,0))).alloc (.cells #[.string ⟨#[48]⟩] 9 (0,0))) (Zbf w [22] (-1)) :=
 Zfr 14 ⟨by decide,by decide⟩ _ _ _ _ _ _ _ _ Z6d Z6y (by decide) (by decide) (by rw [Z40];exact Z7 (by decide) (by decide)) (by rw [Z26];exact Z7 (by decide) (by decide)) _ _ (fun F a v1 v2 n nv nu M O Q x y hW hT h0=>by
  rw [Z40,Z26] at hT;rw [Z26] at h0;have e:=Zy1 hW (by decide) hT;rw [if_pos (by decide)] at e;exact e) w hL
theorem Z43 (w:World)(hL:LVE w):Calls Tryz.prog 23 #[.int .i64 11,.func (.func 52) #[] #[.pointer (some ⟨w.heap.size,0,none⟩)],.func (.func 52) #[] #[.pointer (some ⟨w.heap.size+1,0,none⟩)]] ((w.alloc (.cells #[.string ⟨#[55]⟩] 9 (0,0))).alloc (.cells #[.string ⟨#[48]⟩] 9 (0,0))) (Zbf w [] (4)) :=
 Zfr 11 ⟨by decide,by decide⟩ _ _ _ _ _ _ _ _ Z6x Z6y (by decide) (by decide) (by rw [Z6c];exact Z7 (by decide) (by decide)) (by rw [Z26];exact Z7 (by decide) (by decide)) _ _ (fun F a v1 v2 n nv nu M O Q x y hW hT h0=>by
  rw [Z6c,Z26] at hT;rw [Z26] at h0;exact Zy3 hW (by decide) hT (h0 rfl)) w hL
theorem Z44 (w:World)(hL:LVE w):Calls Tryz.prog 23 #[.int .i64 8,.func (.func 52) #[] #[.pointer (some ⟨w.heap.size,0,none⟩)],.func (.func 54) #[] #[.pointer (some ⟨w.heap.size+1,0,none⟩)]] ((w.alloc (.cells #[.string ⟨#[55]⟩] 9 (0,0))).alloc (.cells #[.int .u32 22] 37 (0,0))) (Zbf w [] 2) :=
 Zy4 _ _ _ _ Z6x (by decide) (by rw [Z6c];exact Z7 (by decide) (by decide)) w hL
theorem Zke (w0:World)(hL:LVE w0):Calls Tryz.prog 4 #[] w0 fun e w'=>e=.returned (.bool true)/\Below w0.heap.size w0 w':=by
 have HL:=Ya hL;have HB0:=Ya (Below.refl w0.heap.size w0);clear hL;go_enter Tryz.func4,Tryz.ntmps4
 go_wp2_with fail
 refine (Zbl _ _).mono ?_;rintro e y1a ⟨rfl,rfl⟩;go_wp2_with fail
 refine (Zbl _ _).mono ?_;rintro e y1b ⟨rfl,rfl⟩;go_wp2_with fail
 refine (Z43 w0 (HL.out.on HB0.out)).mono ?_;rintro e w1 ⟨A1,c1,rfl,hr1,hb1⟩;have HR1:=Ya hr1;have HB1:=Ya (HB0.out.trans (hb1.mono HB0.out.size));have HX1:=Ya hb1;clear hr1 hb1;go_wp2_with fail
 refine (Zbl _ _).mono ?_;rintro e y2a ⟨rfl,rfl⟩;go_wp2_with fail
 refine (Z2g _ _).mono ?_;rintro e y2b ⟨rfl,rfl⟩;go_wp2_with fail
 refine (Z44 w1 (HL.out.on HB1.out)).mono ?_;rintro e w2 ⟨A2,c2,rfl,hr2,hb2⟩;have HR2:=Ya hr2;have HB2:=Ya (HB1.out.trans (hb2.mono HB1.out.size));have HX2:=Ya hb2;clear hr2 hb2;go_wp2_with fail
 refine (Zbl _ _).mono ?_;rintro e y3a ⟨rfl,rfl⟩;go_wp2_with fail
 refine (Zbl _ _).mono ?_;rintro e y3b ⟨rfl,rfl⟩;go_wp2_with fail
 refine (Z42 w2 (HL.out.on HB2.out)).mono ?_;rintro e w3 ⟨A3,c3,rfl,hr3,hb3⟩;have HR3:=Ya hr3;have HB3:=Ya (HB2.out.trans (hb3.mono HB2.out.size));have HX3:=Ya hb3;clear hr3 hb3;go_wp2_with fail
 refine (Zbl _ _).mono ?_;rintro e y4a ⟨rfl,rfl⟩;go_wp2_with fail
 refine (Zbl _ _).mono ?_;rintro e y4b ⟨rfl,rfl⟩;go_wp2_with fail
 refine (Z6g w3 (HL.out.on HB3.out)).mono ?_;rintro e w4 ⟨A4,c4,rfl,hr4,hb4⟩;have HR4:=Ya hr4;have HB4:=Ya (HB3.out.trans (hb4.mono HB3.out.size));have HX4:=Ya hb4;clear hr4 hb4;go_wp2_with fail
 refine (Zbl _ _).mono ?_;rintro e y5a ⟨rfl,rfl⟩;go_wp2_with fail
 refine (Zbl _ _).mono ?_;rintro e y5b ⟨rfl,rfl⟩;go_wp2_with fail
 refine (Z6h w4 (HL.out.on HB4.out)).mono ?_;rintro e w5 ⟨A5,c5,rfl,hr5,hb5⟩;have HR5:=Ya hr5;have HB5:=Ya (HB4.out.trans (hb5.mono HB4.out.size));have HX5:=Ya hb5;clear hr5 hb5;go_wp2_with fail
 refine (Zbl _ _).mono ?_;rintro e y6a ⟨rfl,rfl⟩;go_wp2_with fail
 refine (Zbl _ _).mono ?_;rintro e y6b ⟨rfl,rfl⟩;go_wp2_with fail
 refine (Z6i w5 (HL.out.on HB5.out)).mono ?_;rintro e w6 ⟨A6,c6,rfl,hr6,hb6⟩;have HR6:=Ya hr6;have HB6:=Ya (HB5.out.trans (hb6.mono HB5.out.size));have HX6:=Ya hb6;clear hr6 hb6;go_wp2_with fail
 refine (Zwf w6 (HL.out.on HB6.out)).mono ?_;rintro e w7 ⟨rfl,hb7⟩;have HX7:=Ya hb7;have HB7:=Ya (HB6.out.trans (hb7.mono HB6.out.size));clear hb7;go_wp2_with fail
 refine (Zk2 [22] A3 c3 w7 (((((((((HR3.out).below HX4.out).moreM HX4.out.size).below HX5.out).moreM HX5.out.size).below HX6.out).moreM HX6.out.size).below HX7.out).moreM HX7.out.size) (by decide)).mono ?_;rintro e w8 ⟨rfl,hb8⟩;have HX8:=Ya hb8;have HB8:=Ya (HB7.out.trans (hb8.mono HB7.out.size));clear hb8;go_wp2_with fail
 refine (Zk2 [159,0,0,0,4] A4 c4 w8 (((((((((HR4.out).below HX5.out).moreM HX5.out.size).below HX6.out).moreM HX6.out.size).below HX7.out).moreM HX7.out.size).below HX8.out).moreM HX8.out.size) (by decide)).mono ?_;rintro e w9 ⟨rfl,hb9⟩;have HX9:=Ya hb9;have HB9:=Ya (HB8.out.trans (hb9.mono HB8.out.size));clear hb9;go_wp2_with fail
 refine (Zk2 [4294967292] A5 c5 w9 (((((((((HR5.out).below HX6.out).moreM HX6.out.size).below HX7.out).moreM HX7.out.size).below HX8.out).moreM HX8.out.size).below HX9.out).moreM HX9.out.size) (by decide)).mono ?_;rintro e w10 ⟨rfl,hb10⟩;have HX10:=Ya hb10;have HB10:=Ya (HB9.out.trans (hb10.mono HB9.out.size));clear hb10;go_wp2_with fail
 refine (Zk2 [159,0,0,0,4] A6 c6 w10 (((((((((HR6.out).below HX7.out).moreM HX7.out.size).below HX8.out).moreM HX8.out.size).below HX9.out).moreM HX9.out.size).below HX10.out).moreM HX10.out.size) (by decide)).mono ?_;rintro e w11 ⟨rfl,hb11⟩;have HX11:=Ya hb11;have HB11:=Ya (HB10.out.trans (hb11.mono HB10.out.size));clear hb11;go_wp2_with fail
 go_ret
 exact ⟨rfl,HB11.out⟩
end
end Go.Proofs.YtfhiobkkdcdmiaaGreatDoor
