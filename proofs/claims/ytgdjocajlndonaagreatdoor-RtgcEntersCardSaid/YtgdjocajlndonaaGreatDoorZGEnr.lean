/- Parts. -/
import Derived.Test.YtgdjocajlndonaaGreatDoorZGCll
import Derived.Test.YtgdjocajlndonaaGreatDoorZGSttQ1
import Derived.Test.YtgdjocajlndonaaGreatDoorZKTop
import Derived.JoinedOf
import Derived.JoinedCond
import Derived.KernelRfl
set_option linter.all false
set_option maxHeartbeats 40000000
open List renaming range->Yo,map_append->Yv,mem_append->Yw,mem_map->Y7,mem_range->Yaf
namespace Go.Proofs.YtgdjocajlndonaaGreatDoor
section
open Go.RowKit
theorem Zr3:S.chkB S.rEnter=0:=by kernel_rfl
section
variable {I:S.Img}(hI:I.Ok){cf:S.Cf}(hc:S.Cf.Ok I cf){T:S.Ob->Prop}
include hI hc
end
section
variable {I:S.Img}(hI:I.Ok)
include hI
end
end
section
open Go.RowKit
theorem Z3r:∀ {a b:S.Vw},a.reg=b.reg->a.mem=b.mem->a.inp=b.inp->a.out=b.out->a=b
 | ⟨_,_,_,_⟩,⟨_,_,_,_⟩,rfl,rfl,rfl,rfl=>rfl
def S.al (st:S.Vw):S.Vw:=(st.sto 8 0).regs [1,4,5,6,7,8,9,10] [st.mem 16,st.mem 17,st.mem 18,st.mem 19,st.mem 20,st.mem 21,st.mem 22,st.mem 23]
section
variable {I:S.Img}(hI:I.Ok){cf:S.Cf}(hc:S.Cf.Ok I cf){T:S.Ob->Prop}
include hI hc
theorem Z0j {dep lk:Int}{behind:Bool}{ne:S.BE}{r:List S.BS}{env:List Int}{st:S.Vw}{c:Nat}{Q:List Int->S.Vw->Nat->Prop}{R:S.BO->Nat->Prop}{m:Int}(hp:S.pureE ne=true)(hok:∀ st,S.okE I lk env st ne)(hev:∀ st,S.evE I lk env st ne=m)(hco:S.coE ne<=5)(hm:0<=m/\m<4294967295)
 (h:∀ c':Nat,c'<=c+80->S.wpSs I dep lk behind r env (S.bg st m) c' Q R):S.wpSs I dep lk behind (S.bSave ne++r) env st c Q R:=by
 unfold S.bSave;simp only [List.cons_append,List.nil_append];have rg:∀ (st:S.Vw) (j:Int),S.evE I lk env st (S.eR j)=st.reg j:=fun _ _=>rfl
 have cc:∀ (st:S.Vw),S.evE I lk env st (S.eC 0)=0:=fun _=>rfl
 have c8:∀ (st:S.Vw),S.evE I lk env st (S.eC 8)=8:=fun _=>rfl
 have sr:∀ (st:S.Vw) (a v j:Int),(st.sto a v).reg j=st.reg j:=fun _ _ _ _=>rfl
 have qc:∀ j,S.coE (S.eC j)=2:=fun _=>rfl
 have qr:∀ j,S.coE (S.eR j)=1:=fun _=>rfl
 have dd:∀ j:Int,0<=j->j<1056->j<I.size/\¬ I.stk j/\¬ I.code j:=fun j h0 h1=>(hc.low j h0 h1).2
 have pp:∀ (j:Int) (st:S.Vw),0<=j->j<1056->S.u32m (S.evE I lk env st (S.eC j)+0)=j:=fun j st h0 h1=>by rw [Z3v];unfold S.u32m;omega
 refine Zb2 (a:=S.eC 16) rfl (Zb1 16) rfl (Znp 1) (pp 16 _ (by decide) (by decide)) (dd 16 (by decide) (by decide)) ?_;refine Zb2 (a:=S.eC 23) rfl (Zb1 23) rfl (Znp 10) (pp 23 _ (by decide) (by decide)) (dd 23 (by decide) (by decide)) ?_;refine Zb2 (a:=S.eC 17) rfl (Zb1 17) rfl (Znp 4) (pp 17 _ (by decide) (by decide)) (dd 17 (by decide) (by decide)) ?_;refine Zb2 (a:=S.eC 18) rfl (Zb1 18) rfl (Znp 5) (pp 18 _ (by decide) (by decide)) (dd 18 (by decide) (by decide)) ?_;refine Zb2 (a:=S.eC 19) rfl (Zb1 19) rfl (Znp 6) (pp 19 _ (by decide) (by decide)) (dd 19 (by decide) (by decide)) ?_;refine Zb2 (a:=S.eC 20) rfl (Zb1 20) rfl (Znp 7) (pp 20 _ (by decide) (by decide)) (dd 20 (by decide) (by decide)) ?_;refine Zb2 (a:=S.eC 21) rfl (Zb1 21) rfl (Znp 8) (pp 21 _ (by decide) (by decide)) (dd 21 (by decide) (by decide)) ?_;refine Zb2 (a:=S.eC 22) rfl (Zb1 22) rfl (Znp 9) (pp 22 _ (by decide) (by decide)) (dd 22 (by decide) (by decide)) ?_;refine Zb2 (a:=S.eC 6) rfl (Zb1 6) rfl (Zb1 0) (pp 6 _ (by decide) (by decide)) (dd 6 (by decide) (by decide)) ?_;simp only [rg,cc,sr,qc,qr];have elt:∀ st:S.Vw,S.evE I lk env st (S.eLt (S.eC 6) ne)=if 6<m then 1 else 0:=fun st=>by
  show S.alu 14 (6%4294967296) (S.evE I lk env st ne)=_
  rw [hev];exact Znq _ _
 have ead:∀ st:S.Vw,S.evE I lk env st (S.eAdd ne (S.eC 1))=m+1:=fun st=>by
  show S.alu 1 (S.evE I lk env st ne) (1%4294967296)=_
  rw [hev,Zqw];unfold S.u32m;omega
 have qlt:S.coE (S.eLt (S.eC 6) ne)=2+S.coE ne+1:=by
  show 2+(S.coE ne+0)+1=_
  omega
 have qad:S.coE (S.eAdd ne (S.eC 1))=S.coE ne+2+1:=by
  show S.coE ne+(2+0)+1=_
  omega
 have same:∀ v:Int,v=(if 6<m then 8 else m+1)->(((((((((st.sto 16 (st.reg 1)).sto 23 (st.reg 10)).sto 17 (st.reg 4)).sto 18 (st.reg 5)).sto 19 (st.reg 6)).sto 20 (st.reg 7)).sto 21 (st.reg 8)).sto 22 (st.reg 9)).sto 6 0).sto 8 v=S.bg st m:=by
  intro v hv;have:((((((((((st.sto 16 (st.reg 1)).sto 23 (st.reg 10)).sto 17 (st.reg 4)).sto 18 (st.reg 5)).sto 19 (st.reg 6)).sto 20 (st.reg 7)).sto 21 (st.reg 8)).sto 22 (st.reg 9)).sto 6 0).sto 8 v).mem=(S.bg st m).mem:=by
   funext a
   show (if a=8 then v else if a=6 then 0 else if a=22 then st.reg 9 else if a=21 then st.reg 8 else if a=20 then st.reg 7 else if a=19 then st.reg 6 else if a=18 then st.reg 5 else if a=17 then st.reg 4 else if a=23 then st.reg 10 else if a=16 then st.reg 1 else st.mem a) =
    (if a=8 then (if 6<m then 8 else m+1) else if a=6 then 0 else if a=16 then st.reg 1 else if a=23 then st.reg 10 else if 17<=a/\a<=22 then st.reg (a-13) else st.mem a)
   rw [<- hv];by_cases h8:a=8
   ·rw [if_pos h8,if_pos h8]
   by_cases h6:a=6
   ·rw [if_neg h8,if_neg h8,if_pos h6,if_pos h6]
   by_cases h16:a=16
   ·subst h16;rfl
   by_cases h23:a=23
   ·subst h23;rfl
   by_cases hr:17<=a/\a<=22
   ·have:a=17\/a=18\/a=19\/a=20\/a=21\/a=22:=by omega
    rcases this with rfl | rfl | rfl | rfl | rfl | rfl <;> rfl
   ·rw [if_neg h8,if_neg h6,if_neg (by omega),if_neg (by omega),if_neg (by omega),if_neg (by omega),if_neg (by omega),if_neg (by omega),if_neg h23,if_neg h16,if_neg h8,if_neg h6,if_neg h16,if_neg h23,if_neg hr]
  exact Z3r rfl this rfl rfl
 refine Zjw (by show S.pureE (S.eLt (S.eC 6) ne)=true;simp [S.eLt,S.eB,S.pureE,S.pureEs,hp,S.eC]) (Zfe (by decide) (Zb1 6) (hok _)) (fun hz=>?_) (fun hnz=>?_)
 ·rw [elt] at hz
  have hle:¬ 6<m:=fun q=>by rw [if_pos q] at hz;cases hz
  refine Zb2 (a:=S.eC 8) rfl (Zb1 8) (by show S.pureE (S.eAdd ne (S.eC 1))=true;simp [S.eAdd,S.eB,S.pureE,S.pureEs,hp,S.eC]) (Zfe (by decide) (hok _) (Zb1 1)) (pp 8 _ (by decide) (by decide)) (dd 8 (by decide) (by decide)) (Za0 ?_);rw [ead,same _ (if_neg hle).symm];exact h _ (by rw [qlt,qad,qc];omega)
 ·rw [elt] at hnz
  have hlt:6<m:=Classical.byContradiction fun q=>by rw [if_neg q] at hnz;exact hnz rfl
  refine Zb2 (a:=S.eC 8) rfl (Zb1 8) rfl (Zb1 8) (pp 8 _ (by decide) (by decide)) (dd 8 (by decide) (by decide)) (Za0 ?_);rw [c8,same _ (if_pos hlt).symm];exact h _ (by rw [qlt,qc];omega)
theorem Zr4 {dep lk:Int}{env:List Int}{st:S.Vw}{c:Nat}{Q:List Int->S.Vw->Nat->Prop}{R:S.BO->Nat->Prop}(h:∀ c':Nat,c'<=c+60->R (.ret (S.al st)) c'):S.wpSs I dep lk false S.bRestore env st c Q R:=by
 unfold S.bRestore;refine Zb2 (a:=S.eC 8) (p:=8) rfl (Zb1 8) rfl (Zb1 0) rfl (hc.low 8 (by decide) (by decide)).2 ?_;rw [Zfi,Zuu];have w:∀ n:Int,0<=n->n<1056->S.okE I lk env (st.sto 8 (S.evE I lk env st (S.eC 0))) (S.eW n):=fun n h0 h1=>(Zr7 hI hc h0 h1).1
 refine Zgk rfl ⟨w 16 (by decide) (by decide),w 17 (by decide) (by decide),w 18 (by decide) (by decide),w 19 (by decide) (by decide),w 20 (by decide) (by decide),w 21 (by decide) (by decide),w 22 (by decide) (by decide),w 23 (by decide) (by decide),trivial⟩ ?_;have e0:S.evE I lk env st (S.eC 0)=0:=rfl;rw [e0];have ev:∀ n:Int,0<=n->n<1056->n≠8->S.evE I lk env (st.sto 8 0) (S.eW n)=st.mem n:=fun n h0 h1 h8=>by
  rw [(Zr7 hI hc h0 h1).2]
  show (if n=8 then _ else st.mem n)=_
  rw [if_neg h8]
 have evs:S.evEs I lk env (st.sto 8 0) [S.eW 16,S.eW 17,S.eW 18,S.eW 19,S.eW 20,S.eW 21,S.eW 22,S.eW 23]=[st.mem 16,st.mem 17,st.mem 18,st.mem 19,st.mem 20,st.mem 21,st.mem 22,st.mem 23]:=by
  show [_,_,_,_,_,_,_,_]=_
  rw [ev 16 (by decide) (by decide) (by decide),ev 17 (by decide) (by decide) (by decide),ev 18 (by decide) (by decide) (by decide),ev 19 (by decide) (by decide) (by decide),ev 20 (by decide) (by decide) (by decide),ev 21 (by decide) (by decide) (by decide),ev 22 (by decide) (by decide) (by decide),ev 23 (by decide) (by decide) (by decide)]
 rw [evs];refine h _ ?_;have q1:S.coE (S.eC 8)=2:=rfl;have q2:S.coE (S.eC 0)=2:=rfl;have q3:S.coEs [S.eW 16,S.eW 17,S.eW 18,S.eW 19,S.eW 20,S.eW 21,S.eW 22,S.eW 23]=24:=rfl;rw [q1,q2,q3];simp only [Bool.false_eq_true,if_false,List.length_cons,List.length_nil];omega
def S.dg (I:S.Img)(cf:S.Cf)(T:S.Ob->Prop)(cnt:Nat)(want:Int)(st:S.Vw)(o:S.BO)(k:Nat):Prop :=
 ∃ o1 k1,S.b5 I cf T cnt 0 want ((S.bg st (st.reg 2)).args [st.reg 3]) o1 k1/\k<=k1+200/\match o1 with
  | .ret st2=>o=.ret (S.al st2)
  | .halt code st2=>o=.halt code st2
  | .left _ _=>False
theorem Zr5 {iM iS iF iC iR iE:Nat}(hM:S.Seg I S.kMove iM (S.bItems S.rMove))(hS:S.Seg I S.kScan iS (S.bItems S.rScan))(hF:S.Seg I S.kFrame iF (S.bItems S.rFrame))(hC:S.Seg I S.kCollect iC (S.bItems S.rCollect))(hR:S.Seg I S.kReserve iR (S.bItems S.rReserve))(hE:S.Seg I (S.kRt 100) iE (S.bItems S.rEnter))
 {st:S.Vw} {cnt:Nat} (h:S.dp I cf T cnt 0 (S.bg st (st.reg 2)).mem) (h2:0<=st.reg 2/\st.reg 2<4294967295) {spare:Int} (h7:st.mem 7=spare) (hn0:0<=st.reg 3/\0<=spare/\st.reg 3+spare<4294967296) (h26:0<=st.reg 26/\st.reg 26<=st.reg 27/\st.reg 27<4294967296) :
 S.Real I (S.kRt 100) false st 105 (fun _ o k=>S.dg I cf T cnt (st.reg 3+spare) st o k):=by
 refine Zg5 hI S.rEnter Zr3 hE (dep:=88) (by decide) st _ fun lk env _ _ hl hp=>?_
 obtain ⟨e0,e1,rfl⟩:=Zml hl
 show S.wpSs I 88 lk false (S.sAs 0 (S.eR 2)::S.sAs 1 (S.eR 3)::(S.bSave (S.eL 0)++([S.sDo (S.eF S.kReserve [S.eL 1])]++S.bRestore))) [e0,e1] st _ _ _
 refine Zed rfl (Znp 2) (Zed rfl (Znp 3) ?_)
 show S.wpSs I 88 lk false (S.bSave (S.eL 0)++([S.sDo (S.eF S.kReserve [S.eL 1])]++S.bRestore)) [st.reg 2,st.reg 3] st _ _ _
 refine Z0j hI hc (m:=st.reg 2) rfl (fun _=>Zcy 0) (fun _=>rfl) (by decide) h2 fun c' hc'=>?_
 have hev:S.evEs I lk [st.reg 2,st.reg 3] (S.bg st (st.reg 2)) [S.eL 1]=[st.reg 3]:=rfl;have g26:((S.bg st (st.reg 2)).args [st.reg 3]).reg 26=st.reg 26:=rfl;refine Zxu (l:=[S.eL 1]) rfl ⟨Zcy 1,trivial⟩ (d:=88) (T:=fun _ o k=>S.b5 I cf T cnt 0 (st.reg 3+spare) ((S.bg st (st.reg 2)).args [st.reg 3]) o k) (by rw [hev];exact Zhj hI hc hM hS hF hC hR (st:=(S.bg st (st.reg 2)).args [st.reg 3]) h rfl h7 hn0 h26) (by decide) fun ret o k hR=>?_
 have q1:S.coE (S.eR 2)=1:=rfl;have q2:S.coE (S.eR 3)=1:=rfl;have q3:S.coEs [S.eL 1]=1:=rfl;have q4:S.rEnter.params.toNat=0:=rfl;rw [q1,q2,q4] at hc';rw [hev,q3];have hlen:([st.reg 3]:List Int).length=1:=rfl;rw [hlen]
 cases o with
 | ret st2 =>
  refine Zr4 hI hc fun c2 hc2=>⟨_,k,hR,?_,rfl⟩
  omega
 | halt code st2=>exact ⟨_,k,hR,by omega,rfl⟩
 | left a b =>
  rcases hR with ⟨_,e,_⟩ | ⟨_,_,_,_,⟨_,e⟩ | ⟨_,e⟩,_⟩ <;> cases e
end
end
section
open Go.RowKit
section
variable {gw sw F:List Int}{size:Int}
theorem Zuq (b:Bool):∃ i,S.Seg (S.ab b gw sw F size) (S.kRt 100) i (S.bItems S.rEnter):=Zrr (j:=8) (r:=S.rEnter) rfl
section
variable {g:S.Gr}{a:Int}{was at_:List Int}{mem:Int->Int}{half fr to_ r26:Int}{il:List Nat}{nu:Nat->Int}{n0:Int}{l:List Nat}{cnt n:Nat}
end
end
section
variable {gw sw F:List Int}{size:Int}{g:S.Gr}{a:Int}{was at_:List Int}{half fr to_ r26:Int}{il:List Nat}{nu:Nat->Int}{n0:Int}{l:List Nat}{cnt n:Nat}
end
end
section
set_option maxRecDepth 100000
theorem rtgcEnters_closed:joinedFacts Tryz.pinned.checked.prog 5 Tryz.f5 (OpenSpec.ofChange Rows.rtgcEntersSpec).bare Rows.rtgcEntersRow=true:=by
 unfold joinedFacts;simp only [Bool.and_eq_true]
 (repeat' apply And.intro)
 all_goals (as_aux_lemma=>kernel_rfl)
end
section
open Go.RowKit
def S.bu (g:S.Gr)(args:List (Int×Int))(i:Nat):Int:=if i<args.length then g.word (args.getD i (0,0)) else 4*(i:Int)
def S.bk (i:Nat):Int:=if i=0 then 1 else 3+(i:Int)
def S.bt (v:Nat->Int)(i:Nat):Int:=if i=7 then 38 else v i
def S.bx (M:S.Mach)(v:Nat->Int):Nat->S.Mach
 | 0=>M
 | i+1=>(S.bx M v i).setV (S.bk i) (S.bt v i)
def S.bz (M:S.Mach)(v:Nat->Int)(c t:Int):S.Mach:=((S.bx M v 8).setV 2 c).setV 3 t
theorem Ziy {i:Nat}(h:i<8):0<S.bk i/\S.bk i<=10/\S.bk i≠2/\S.bk i≠3:=by
 unfold S.bk
 split <;> omega
theorem Z0k {i k:Nat}(h:S.bk k=S.bk i):k=i:=by
 unfold S.bk at h
 split at h <;> split at h <;> omega
theorem Zy5 {gw sw F:List Int}{size:Int}(hI:(S.ab true gw sw F size).Ok){M:S.Mach}(h:S.Wd gw sw F size M){v:Nat->Int}(hv:∀ k,k<8->0<=v k/\v k<=4294967295) :
 ∀ i:Nat,i<=8->S.Wd gw sw F size (S.bx M v i)/\(∀ y,(S.bx M v i).mv y=M.mv y)/\(∀ k,k<i->(S.bx M v i).rd (S.bk k)=S.bt v k)/\∀ j,(∀ k,k<i->j≠S.bk k)->(S.bx M v i).rd j=M.rd j
 | 0,_=>⟨h,fun _=>rfl,fun k hk=>absurd hk (Nat.not_lt_zero k),fun _ _=>rfl⟩
 | i+1,hi=>by
  obtain ⟨h1,h2,h3,h4⟩:=Zy5 hI h hv i (by omega);have hr:=Ziy (i:=i) (by omega);have hb:0<=S.bt v i/\S.bt v i<=4294967295:=by
   unfold S.bt
   split
   ·decide
   ·exact hv i (by omega)
  have w:=Zgl hI h1 (i:=S.bk i) (v:=S.bt v i) ⟨hr.1,by omega⟩ (fun q=>by omega) hb;refine ⟨w,fun y=>?_,fun k hk=>?_,fun j hj=>?_⟩
  ·show ((S.bx M v i).setV (S.bk i) (S.bt v i)).mv y=_
   rw [Zcj hr.1 (by omega)];exact h2 y
  ·show ((S.bx M v i).setV (S.bk i) (S.bt v i)).rd (S.bk k)=_
   rw [Zbu h1.ok hr.1 (by omega)];by_cases c:k=i
   ·subst c
    rw [if_pos rfl]
   ·rw [if_neg (fun e=>c (Z0k e))]
    exact h3 k (by omega)
  ·show ((S.bx M v i).setV (S.bk i) (S.bt v i)).rd j=_
   rw [Zbu h1.ok hr.1 (by omega),if_neg (hj i (by omega))];exact h4 j fun k hk=>hj k (by omega)
theorem Z16 {gw sw F:List Int}{size:Int}(hI:(S.ab true gw sw F size).Ok){M:S.Mach}(h:S.Wd gw sw F size M){v:Nat->Int}(hv:∀ k,k<8->0<=v k/\v k<=4294967295){c t:Int}(hc:0<=c/\c<=4294967295)(ht:0<=t/\t<=4294967295) :
 S.Wd gw sw F size (S.bz M v c t)/\(∀ y,(S.bz M v c t).mv y=M.mv y)/\(S.bz M v c t).rd 2=c/\(S.bz M v c t).rd 3=t/\(∀ k,k<8->(S.bz M v c t).rd (S.bk k)=S.bt v k)/\∀ j,10<j->(S.bz M v c t).rd j=M.rd j:=by
 obtain ⟨h1,h2,h3,h4⟩:=Zy5 hI h hv 8 (Nat.le_refl _);have w2:=Zgl hI h1 (i:=2) (v:=c) (by decide) (fun q=>absurd q (by decide)) hc;have w3:=Zgl hI w2 (i:=3) (v:=t) (by decide) (fun q=>absurd q (by decide)) ht;have hrd:∀ j,(S.bz M v c t).rd j=if j=3 then t else if j=2 then c else (S.bx M v 8).rd j:=fun j=>by
  unfold S.bz;rw [Zbu w2.ok (by decide) (by decide),Zbu h1.ok (by decide) (by decide)]
 refine ⟨w3,fun y=>?_,by rw [hrd];rfl,by rw [hrd];rfl,fun k hk=>?_,fun j hj=>?_⟩
 ·unfold S.bz
  rw [Zcj (by decide) (by decide),Zcj (by decide) (by decide)];exact h2 y
 ·have:=Ziy hk
  rw [hrd,if_neg this.2.2.2,if_neg this.2.2.1];exact h3 k hk
 ·rw [hrd,if_neg (by omega),if_neg (by omega)]
  exact h4 j fun k hk=>by have:=Ziy hk;omega
theorem Zgg:S.kRt 100∈S.wTells:=Zur (by kernel_rfl)
theorem Znm (st:S.Vw):(∀ i,i<8->(S.al st).reg (S.bk i)=st.mem (16+(i:Nat)))/\(S.al st).reg 2=st.reg 2/\(S.al st).reg 26=st.reg 26/\(S.al st).reg 27=st.reg 27/\∀ a,(S.al st).mem a=if a=8 then 0 else st.mem a:=by
 refine ⟨fun i hi=>?_,rfl,rfl,rfl,fun _=>rfl⟩
 match i,hi with
 | 0,_=>rfl
 | 1,_=>rfl
 | 2,_=>rfl
 | 3,_=>rfl
 | 4,_=>rfl
 | 5,_=>rfl
 | 6,_=>rfl
 | 7,_=>rfl
def S.au (x:S.am)(g:S.Gr)(args:List (Int×Int))(c:Nat):List Int:=(x.pl g).map Prod.snd++(Yo (c+1)).map (S.bu g args)
def S.bo (x:S.am)(g:S.Gr)(c:Nat):List Int:=(x.pl g).map Prod.fst++(Yo (c+1)).map fun i:Nat=>16+(i:Int)
def S.ct (x:S.am)(g:S.Gr)(args:List (Int×Int))(c:Nat):List (Int×Int):=x.pl g++(Yo (c+1)).map fun i:Nat=>(16+(i:Int),S.bu g args i)
theorem Zlm (x:S.am)(g:S.Gr)(args:List (Int×Int))(c:Nat):(S.ct x g args c).map Prod.fst=S.bo x g c:=by
 unfold S.ct S.bo;rw [Yv,List.map_map];rfl
theorem Zqn (x:S.am)(g:S.Gr)(args:List (Int×Int))(c:Nat):(S.ct x g args c).map Prod.snd=S.au x g args c:=by
 unfold S.ct S.au;rw [Yv,List.map_map];rfl
theorem Zln {g:S.Gr}{a0:Int}(hg:g.Ok a0)(hz:a0+S.sizes g.ns<=335544320){args:List (Int×Int)}(ha:∀ y∈args,S.wf y){i:Nat}(hi:i<8):g.fit (S.bu g args i):=by
 unfold S.bu
 split
 ·rename_i h
  rw [List.getD_eq_getElem?_getD,List.getElem?_eq_getElem h];have hw:=ha _ (List.getElem_mem h);exact Zhm hg ⟨hw.1,hw.2.1,hw.2.2.1⟩ hz
 ·exact ⟨by omega,by omega,fun q=>by omega⟩
section
variable {x:S.am}(hx:x.Ok)(hnr:x.nr=0)(hnq:x.nq=0){F:List Int}{H heap half:Int}(hI:∀ b,(S.ab b (S.aa x.ng) (S.aa x.ns) F (H+heap)).Ok)(hH:H=(S.ab true (S.aa x.ng) (S.aa x.ns) F (H+heap)).lab S.kEnd)(hhf:half=heap/2)(hh0:0<=heap/\heap<=1000)
 {m0:S.Mach} (hw:S.Wd (S.aa x.ng) (S.aa x.ns) F (H+heap) m0) (h2:m0.mv 2=H) (h3:m0.mv 3=H+half) (h4:m0.mv 4=half) (h7:m0.mv 7=0) (h27:m0.rd 27=H+half) (hfit:S.sizes (S.ac x.nodes)<=half) {g:S.Gr} (hgE:g=S.ah x.nodes H)
include hx hnr hnq hI hH hhf hh0 hw h2 h3 h4 h7 h27 hfit hgE
theorem Znn {args:List (Int×Int)}(ha:∀ y∈args,S.wf y){c:Nat}(hc:c<=6){need:Int}(hn:0<=need/\need<=300){M:S.Mach}(hM:M=S.bz (S.a8 x g ((S.ag g m0).setV 26 (H+S.sizes g.ns))) (S.bu g args) c need){C:S.Mach}(hC:C=S.aj (S.ab true (S.aa x.ng) (S.aa x.ns) F (H+heap)) M (S.kRt 100) 400000){n0:Int}{l:List Nat}(re:S.Reached g (S.au x g args c) n0 l) :
 S.Wd (S.aa x.ng) (S.aa x.ns) F (H+heap) M/\C.state=1 /\
 (need<=half-S.sizes g.ns->C.place=(S.ab true (S.aa x.ng) (S.aa x.ns) F (H+heap)).lab S.kStub/\C.mv 2=H/\C.rd 27-C.rd 26=half-S.sizes g.ns/\C.mv 8=0/\C.mv 6=0/\C.rd 2=c/\(∀ q∈x.pl g,C.mv q.1=q.2)/\∀ i,i<=c->C.rd (S.bk i)=S.bu g args i) /\
 (half-S.sizes g.ns<need->half-n0<need->C.place≠(S.ab true (S.aa x.ng) (S.aa x.ns) F (H+heap)).lab S.kStub/\C.code=255) /\
 (half-S.sizes g.ns<need->need<=half-n0->C.place=(S.ab true (S.aa x.ng) (S.aa x.ns) F (H+heap)).lab S.kStub/\C.Ok/\(∃ nu,S.Keeps g (S.au x g args c) ((S.bo x g c).map C.mv) C.mv (C.mv 2) half (C.rd 26) (C.rd 27) l nu)/\C.mv 2=H+half/\C.rd 27-C.rd 26=half-n0/\C.mv 8=0/\C.mv 6=0/\C.rd 2=c/\∀ i,i<=c->C.rd (S.bk i)=C.mv (16+(i:Nat))):=by
 obtain ⟨hg,hz,hfit',hHl,hwd,hrd,hlaid,hin,hlow⟩:=Zjc hx hI hH hhf hh0.1 hw h2 h3 h4 hfit hgE;obtain ⟨M1,hM1⟩:=Yx (S.a8 x g ((S.ag g m0).setV 26 (H+S.sizes g.ns)));obtain ⟨l1,l2,l3,l4,l5,l6,l7,l8,l9⟩:=Zb3 x;have he:=Zbp (hI true);rw [<- hH,Zh,Zh] at he;have hsz2:=(hI true).size2;have hszE:(S.ab true (S.aa x.ng) (S.aa x.ns) F (H+heap)).size=H+heap:=rfl;rw [hszE] at hsz2;have hsn:=Z7 g.ns;rw [<- hM1] at hwd hrd hlaid hin hlow hM;have hvb:∀ k,k<8->0<=S.bu g args k/\S.bu g args k<=4294967295:=fun k hk=>by
  have h:=Zln hg hz ha hk;exact ⟨h.1,by have:=h.2.1;omega⟩
 obtain ⟨w4,hmv,r2,r3,rk,ro⟩:=Z16 (hI true) hwd (v:=S.bu g args) hvb (c:=c) (t:=need) ⟨by omega,by omega⟩ ⟨by omega,by omega⟩;rw [<- hM] at w4 hmv r2 r3 rk ro;have hq0:x.q g=(0,0,[]):=by
  unfold S.am.q;rw [hnq];rfl
 have hlab:∀ b,(S.ab b (S.aa x.ng) (S.aa x.ns) F (H+heap)).lab S.kCode=1312+x.ng+x.ns:=fun b=>by
  have:=(Zt (hI b)).2.1;rw [Zh,Zh] at this;exact this
 have fst:=Zfw hg hz hx;have rng:∀ y,y∈(x.pl g).map Prod.fst->(y=5\/(1312<=y/\y<1312+x.ng+x.ns)):=fun y hy=>by
  rcases (fst y).1 hy with h | h | h | h
  ·omega
  ·exact .inr h
  ·exact .inl h
  ·rw [hq0] at h
   rcases h with ⟨i,_,_,hb⟩ | ⟨i,_,_,hb⟩
   ·rw [Zh3] at hb;cases hb
   ·rw [Zh3] at hb;cases hb
 have low:∀ y,0<=y->y<9->y≠5->y≠6->y≠8->M1.mv y=m0.mv y:=fun y h0 h1 h5 h6 h8=>by
  rw [hlow y h0 (by omega),if_neg h6,if_neg (by omega),if_neg (by omega),if_neg (by omega),if_neg (fun h=>by have:=rng y h;omega),if_neg h8]
 obtain ⟨st0,hst0⟩:=Yx (S.viewOf (M.setV 31 ((S.ab true (S.aa x.ng) (S.aa x.ns) F (H+heap)).lab S.kStub)));have hsm:st0.mem=M.mv:=by rw [hst0];exact Zh2 _ _
 have hsr:∀ j,j≠31->st0.reg j=M.rd j:=fun j hj=>by rw [hst0];exact Zlp w4.ok _ hj
 have e26:st0.reg 26=H+S.sizes g.ns:=by rw [hsr 26 (by decide),ro 26 (by decide)];exact (hrd 26)
 have e27:st0.reg 27=H+half:=by
  rw [hsr 27 (by decide),ro 27 (by decide)];have:=hrd 27;rw [if_neg (by decide)] at this;exact this.trans h27
 have e2:st0.reg 2=c:=by rw [hsr 2 (by decide)];exact r2
 have e3:st0.reg 3=need:=by rw [hsr 3 (by decide)];exact r3
 have e7:st0.mem 7=0:=by rw [hsm,hmv,low 7 (by decide) (by decide) (by decide) (by decide) (by decide),h7]
 obtain ⟨sv,hsv⟩:=Yx (S.bg st0 c).mem;have hsv2:∀ a,sv a=if a=8 then (c:Int)+1 else if a=6 then 0 else if a=16 then st0.reg 1 else if a=23 then st0.reg 10 else if 17<=a/\a<=22 then st0.reg (a-13) else M1.mv a:=fun a=>by
  rw [hsv]
  show (if a=8 then (if 6<(c:Int) then 8 else (c:Int)+1) else if a=6 then 0 else if a=16 then st0.reg 1 else if a=23 then st0.reg 10 else if 17<=a/\a<=22 then st0.reg (a-13) else st0.mem a)=_
  rw [if_neg (show ¬ 6<(c:Int) from by omega),hsm,hmv]
 have hsvo:∀ a,(a<6\/24<=a\/a=7)->sv a=M1.mv a:=fun a h=>by
  rw [hsv2,if_neg (by omega),if_neg (by omega),if_neg (by omega),if_neg (by omega),if_neg (by omega)]
 have hsvr:∀ i:Nat,i<=c->sv (16+(i:Int))=S.bu g args i:=fun i hi=>by
  have hk:=rk i (by omega);have hne:S.bt (S.bu g args) i=S.bu g args i:=by unfold S.bt;rw [if_neg (by omega)]
  rw [hne] at hk;rw [hsv2,if_neg (by omega),if_neg (by omega)];by_cases c0:i=0
  ·subst c0
   rw [if_pos (by omega),hsr 1 (by decide)];exact hk
  ·rw [if_neg (by omega),if_neg (by omega),if_pos (by omega),hsr _ (by omega)]
   unfold S.bk at hk;rw [if_neg c0] at hk;rw [show 16+(i:Int)-13=3+i from by omega];exact hk
 have hatm:∀ y,y∈S.bo x g c↔y∈(x.pl g).map Prod.fst\/(16<=y/\y<16+((c+1:Nat):Int)):=fun y=>by
  unfold S.bo;rw [Yw];refine or_congr Iff.rfl ⟨fun h=>?_,fun h=>?_⟩
  ·obtain ⟨i,hi,rfl⟩:=Y7.1 h
   have:=Yaf.1 hi;omega
  ·exact Y7.2 ⟨(y-16).toNat,Yaf.2 (by omega),by omega⟩
 have hG:S.an (S.aa x.ng) (S.aa x.ns) F (H+heap) g H (S.au x g args c) (S.bo x g c) sv half H (H+half) (H+S.sizes g.ns) (Yo g.ns.length) g.adr n0 l (c+1) 0:=by
  rw [<- Zqn,<- Zlm x g args c];refine Zzk hI hH.symm (by omega) (by omega) hg (fun j hj=>?_) hfit' (fun q hqm=>?_) (by rw [Zqn];exact re) ?_ ?_ ?_ ?_ (by omega) (.inl ⟨?_,rfl⟩) (fun y hy=>.inl ?_) fun y hy=>?_
  ·have hE:=Zfj hg hj
   obtain ⟨q1,q2⟩:=hlaid j hj;exact ⟨by rw [hsvo _ (by omega)];exact q1,fun k y hy=>by rw [hsvo _ (by omega)];exact q2 k y hy⟩
  ·rcases Yw.1 (show q∈x.pl g++_ from hqm) with h | h
   ·have:=rng q.1 (Y7.2 ⟨q,h,rfl⟩)
    exact ⟨by rw [hsvo _ (by omega)];exact hin q h,Zfx hg hz hx q h⟩
   ·obtain ⟨i,hi,rfl⟩:=Y7.1 h
    have:=Yaf.1 hi;exact ⟨hsvr i (by omega),Zln hg hz ha (by omega)⟩
  ·rw [hsvo 2 (by decide),low 2 (by decide) (by decide) (by decide) (by decide) (by decide),h2]
  ·rw [hsvo 3 (by decide),low 3 (by decide) (by decide) (by decide) (by decide) (by decide),h3]
  ·rw [hsvo 4 (by decide),low 4 (by decide) (by decide) (by decide) (by decide) (by decide),h4]
  ·rw [hsv2,if_pos rfl]
   omega
  ·rw [hsv2]
   rfl
  ·rw [Zlm,hatm,fst]
   rcases hy with ((rfl | h) | ⟨j,hj,_⟩) | ⟨h,h'⟩
   ·exact .inl (.inr (.inr (.inl rfl)))
   ·exact .inr h
   ·omega
   ·rw [hlab] at h'
    exact .inl (.inr (.inl ⟨h,h'⟩))
  ·rw [Zlm,hatm] at hy
   rcases hy with h | h
   ·rcases rng y h with h | h
    ·exact .inl (.inl (.inl h))
    ·refine .inr ⟨h.1,?_⟩
     rw [hlab];exact h.2
   ·exact .inl (.inl (.inr h))
 have hG0:=hG;have hreal:∀ b,S.Real (S.ab b (S.aa x.ng) (S.aa x.ns) F (H+heap)) (S.kRt 100) false st0 105 (fun _ o k=>S.dg (S.ab b (S.aa x.ng) (S.aa x.ns) F (H+heap)) (S.an.cf g sv g.adr (Yo g.ns.length) H (H+half) half) (S.an.T g sv g.adr l) (c+1) need st0 o k):=fun b=>by
  obtain ⟨iM,sM⟩:=Zh0 (gw:=S.aa x.ng) (sw:=S.aa x.ns) (F:=F) (size:=H+heap) b;obtain ⟨iS,sS⟩:=Zh1 (gw:=S.aa x.ng) (sw:=S.aa x.ns) (F:=F) (size:=H+heap) b;obtain ⟨iF,sF⟩:=Zgh (gw:=S.aa x.ng) (sw:=S.aa x.ns) (F:=F) (size:=H+heap) b;obtain ⟨iC,sC⟩:=Zd0 (gw:=S.aa x.ng) (sw:=S.aa x.ns) (F:=F) (size:=H+heap) b;obtain ⟨iR,sR⟩:=Zix (gw:=S.aa x.ng) (sw:=S.aa x.ns) (F:=F) (size:=H+heap) b;obtain ⟨iE,sE⟩:=Zuq (gw:=S.aa x.ng) (sw:=S.aa x.ns) (F:=F) (size:=H+heap) b;have hcol:=Zlo b hI hG;have h:=Zr5 (hI b) (Zkg b hI hG) sM sS sF sC sR sE (st:=st0) (cnt:=c+1) (spare:=0) (by rw [e2,<- hsv];exact hcol) (by rw [e2];omega) e7 (by rw [e3];omega) (by rw [e26,e27];omega);rw [e3,Int.add_zero] at h;exact h
 have hhfE:(S.an.cf g sv g.adr (Yo g.ns.length) H (H+half) half).hf=half:=rfl;obtain ⟨sa,hsa⟩:=Yx ((S.bg st0 (st0.reg 2)).args [st0.reg 3]);have hsam:sa.mem=sv:=by rw [hsa,hsv,e2];rfl
 have sa26:sa.reg 26=H+S.sizes g.ns:=by rw [hsa];exact e26
 have sa27:sa.reg 27=H+half:=by rw [hsa];exact e27
 have sa2:sa.reg 2=c:=by rw [hsa];exact e2
 have hG':S.an (S.aa x.ng) (S.aa x.ns) F (H+heap) g H (S.au x g args c) (S.bo x g c) sa.mem half H (H+half) (H+S.sizes g.ns) (Yo g.ns.length) g.adr n0 l (c+1) 0:=by rw [hsam];exact hG
 have keeps:∀ (b:Bool) (ρ:List S.Ob) (st':S.Vw),S.Cd (S.an.cf g sv g.adr (Yo g.ns.length) H (H+half) half) (S.an.T g sv g.adr l) (S.RX (S.ab b (S.aa x.ng) (S.aa x.ns) F (H+heap)) sv (c+1) 0) sa ρ st'->S.tot ρ=n0/\∃ nu,S.Keeps g (S.au x g args c) ((S.bo x g c).map st'.mem) st'.mem (H+half) half (st'.reg 26) (st'.reg 27) l nu:=fun b ρ st' hd=>by
  obtain ⟨nu,hk,ht⟩:=Zer b hI hG' (by rw [hsam];exact hd);exact ⟨ht,nu,hk⟩
 have out:∀ (b:Bool) (o:S.BO) (k:Nat),S.dg (S.ab b (S.aa x.ng) (S.aa x.ns) F (H+heap)) (S.an.cf g sv g.adr (Yo g.ns.length) H (H+half) half) (S.an.T g sv g.adr l) (c+1) need st0 o k->k<=390000 /\
  ((need<=half-S.sizes g.ns/\o=.ret (S.al sa))\/(half-S.sizes g.ns<need/\∃ st' ρ,S.Cd (S.an.cf g sv g.adr (Yo g.ns.length) H (H+half) half) (S.an.T g sv g.adr l) (S.RX (S.ab b (S.aa x.ng) (S.aa x.ns) F (H+heap)) sv (c+1) 0) sa ρ st'/\((need<=half-n0/\o=.ret (S.al st'))\/(half-n0<need/\o=.halt 255 st')))):=fun b o k hR=>by
  obtain ⟨o1,k1,hR1,hk,ho⟩:=hR;rw [<- hsa] at hR1;rcases hR1 with ⟨q1,q2,q3⟩ | ⟨q1,st',ρ,hd,hout,hk1⟩
  ·rw [sa26,sa27] at q1
   subst q2;exact ⟨by omega,.inl ⟨by omega,ho⟩⟩
  ·rw [sa26,sa27] at q1
   rw [hsam] at hd;have ht:=(keeps b ρ st' hd).1;rw [hhfE,ht] at hout;rw [hlab b,ht] at hk1;have hn0:n0<=S.sizes g.ns:=Zd6 hg re;refine ⟨by omega,.inr ⟨by omega,st',ρ,hd,?_⟩⟩;rcases hout with ⟨h,rfl⟩ | ⟨h,rfl⟩
   ·exact .inl ⟨h,ho⟩
   ·exact .inr ⟨h,ho⟩
 have hrr:=Znm;have nstk:∀ a:Int,a<1056\/1312<=a->¬ (S.ab true (S.aa x.ng) (S.aa x.ns) F (H+heap)).stk a:=fun a h q=>by
  have q1:=q.1;have q2:=q.2;have g1:(S.ab true (S.aa x.ng) (S.aa x.ns) F (H+heap)).lo=1056:=rfl;have g2:(S.ab true (S.aa x.ng) (S.aa x.ns) F (H+heap)).hi=1312:=rfl;omega
 by_cases hA:need<=half-S.sizes g.ns
 ·obtain ⟨st',rfl,hs,q1,q2,_⟩:=Zdd hI w4 Zgg (d:=105) (by decide) (by rw [<- hst0];exact hreal true) (N:=400000) (P:=fun st'=>st'=S.al sa) fun ret o k hR=>by
   obtain ⟨hk,ho⟩:=out true o k hR;rcases ho with ⟨_,rfl⟩ | ⟨h,_⟩
   ·exact ⟨_,.inl rfl,by omega,rfl⟩
   ·omega
  rw [<- hC] at hs q1 q2;obtain ⟨z1,z2,z3,z4,z5⟩:=hrr sa;have hcm:∀ a,0<=a->a<H+heap->(a<1056\/1312<=a)->C.mv a=if a=8 then 0 else sv a:=fun a h0 h1 h2=>by
   rw [hs.mem a h0 h1 (nstk a h2),z5,hsam]
  refine ⟨w4,q1,fun _=>⟨q2,?_,?_,?_,?_,?_,fun q hqm=>?_,fun i hi=>?_⟩,fun h=>by omega,fun h=>by omega⟩
  ·rw [hcm 2 (by decide) (by omega) (by decide)]
   exact hG.m2
  ·rw [hs.reg 26 (by decide),hs.reg 27 (by decide),z3,z4,sa26,sa27]
   omega
  ·rw [hcm 8 (by decide) (by omega) (by decide),if_pos rfl]
  ·rw [hcm 6 (by decide) (by omega) (by decide),if_neg (by decide),hsv2]
   rfl
  ·rw [hs.reg 2 (by decide),z2,sa2]
  ·have:=rng q.1 (Y7.2 ⟨q,hqm,rfl⟩)
   rw [hcm _ (by omega) (by omega) (by omega),if_neg (by omega),hsvo _ (by omega)];exact hin q hqm
  ·have hb:=Ziy (i:=i) (by omega)
   rw [hs.reg _ (by unfold S.visB;exact decide_eq_true (by omega)),z1 i (by omega),hsam,hsvr i hi]
 ·by_cases hB:half-n0<need
  ·obtain ⟨q1,q2,q3⟩:=Zni hI w4 Zgg (d:=105) (by decide) (by rw [<- hst0];exact hreal true) (by rw [<- hst0];exact hreal false) (N:=400000) (c:=255) (fun ret o k hR=>by
    obtain ⟨hk,ho⟩:=out true o k hR;rcases ho with ⟨h,_⟩ | ⟨_,st',ρ,_,⟨h,_⟩ | ⟨_,rfl⟩⟩
    ·omega
    ·omega
    ·exact ⟨st',rfl,by omega⟩) (fun ret o k hR=>by
    obtain ⟨hk,ho⟩:=out false o k hR;rcases ho with ⟨h,_⟩ | ⟨_,st',ρ,_,⟨h,_⟩ | ⟨_,rfl⟩⟩
    ·omega
    ·omega
    ·exact ⟨255,st',rfl,by omega⟩)
   rw [<- hC] at q1 q2 q3;exact ⟨w4,q1,fun h=>absurd h hA,fun _ _=>⟨q3,q2⟩,fun _ h=>by omega⟩
  ·obtain ⟨st',⟨s2,rfl,ρ,hd⟩,hs,q1,q2,_⟩:=Zdd hI w4 Zgg (d:=105) (by decide) (by rw [<- hst0];exact hreal true) (N:=400000) (P:=fun st'=>∃ s2,st'=S.al s2/\∃ ρ,S.Cd (S.an.cf g sv g.adr (Yo g.ns.length) H (H+half) half) (S.an.T g sv g.adr l) (S.RX (S.ab true (S.aa x.ng) (S.aa x.ns) F (H+heap)) sv (c+1) 0) sa ρ s2) fun ret o k hR=>by
    obtain ⟨hk,ho⟩:=out true o k hR;rcases ho with ⟨h,_⟩ | ⟨_,st',ρ,hd,⟨_,rfl⟩ | ⟨h,_⟩⟩
    ·omega
    ·exact ⟨_,.inl rfl,by omega,st',rfl,ρ,hd⟩
    ·omega
   rw [<- hC] at hs q1 q2;obtain ⟨z1,z2,z3,z4,z5⟩:=hrr s2;obtain ⟨ht,nu,hkp⟩:=keeps true ρ s2 hd;have h26:=hkp.size n0 l re;have h27':=hkp.r27;have hn0:n0<=S.sizes g.ns:=Zd6 hg re;have hcm:∀ a,0<=a->a<H+heap->(a<1056\/1312<=a)->C.mv a=if a=8 then 0 else s2.mem a:=fun a h0 h1 h2=>by
    rw [hs.mem a h0 h1 (nstk a h2),z5]
   have hc26:C.rd 26=s2.reg 26:=by rw [hs.reg 26 (by decide),z3]
   have hc27:C.rd 27=s2.reg 27:=by rw [hs.reg 27 (by decide),z4]
   have hm2:C.mv 2=H+half:=by
    rw [hcm 2 (by decide) (by omega) (by decide)];exact hd.m2
   have norx:∀ a:Int,5<a->a<16->¬ S.RX (S.ab true (S.aa x.ng) (S.aa x.ns) F (H+heap)) sv (c+1) 0 a:=fun a h0 h1 h=>by
    rcases h with ((rfl | h) | ⟨j,hj,_⟩) | ⟨h,h'⟩
    ·omega
    ·omega
    ·omega
    ·omega
   refine ⟨w4,q1,fun h=>absurd h hA,fun _ h=>absurd h hB,fun _ _=>⟨q2,hs.ok,⟨nu,?_⟩,hm2,?_,?_,?_,?_,fun i hi=>?_⟩⟩
   ·rw [hm2,hc26,hc27]
    refine Zi1 hkp (List.map_congr_left fun y hy=>?_) fun a h0 h1=>?_
    ·have hy2:=(hatm y).1 hy
     have:y=5\/(1312<=y/\y<1312+x.ng+x.ns)\/(16<=y/\y<16+((c+1:Nat):Int)):=by
      rcases hy2 with h | h
      ·rcases rng y h with h | h
       ·exact .inl h
       ·exact .inr (.inl h)
      ·exact .inr (.inr h)
     rw [hcm y (by omega) (by omega) (by omega),if_neg (by omega)]
    ·rw [hcm a (by omega) (by omega) (by omega),if_neg (by omega)]
   ·rw [hc26,hc27]
    omega
   ·rw [hcm 8 (by decide) (by omega) (by decide),if_pos rfl]
   ·rw [hcm 6 (by decide) (by omega) (by decide),if_neg (by decide),hd.mem 6 (by decide) (by decide) (norx 6 (by decide) (by decide)) (fun q=>by have:=q.1;have h8:(S.an.cf g sv g.adr (Yo g.ns.length) H (H+half) half).fr=H:=rfl;omega) (fun q=>by have:=q.1;have h8:(S.an.cf g sv g.adr (Yo g.ns.length) H (H+half) half).to_=H+half:=rfl;omega),hsam,hsv2]
    rfl
   ·rw [hs.reg 2 (by decide),z2,hd.reg 2 (by decide) (by decide) (by decide) (by decide) (by decide),sa2]
   ·have hb:=Ziy (i:=i) (by omega)
    rw [hs.reg _ (by unfold S.visB;exact decide_eq_true (by omega)),z1 i (by omega),hcm _ (by omega) (by omega) (by omega),if_neg (by omega)]
end
end
end Go.Proofs.YtgdjocajlndonaaGreatDoor
