/- Parts. -/
import Derived.Test.YtfhiobkkdcdmiaaGreatDoorZNRoom
set_option linter.all false
open List renaming length_append->Yd,getD_eq_getElem?_getD->Ye,getElem?_eq_some_iff->Yg,append_assoc->Ym,getElem?_append_right->Yn,mem_cons->Yz,mem_append->Y2,mem_singleton->Y9,not_mem_nil->Yaq,all_eq_true->Yaz,flatMap_cons->Yba,getElem?_set_ne->Ybb,any_eq_true->Ybr,nodup_nil->Yc1
open Nat renaming zero_add->Yaa
namespace Go.Proofs.YtfhiobkkdcdmiaaGreatDoor
section
open Go.RowKit
namespace S
def MkR (I:Img)(st:Vw)(z:Int):Prop :=
 (-536870912<=z/\z<536870912/\st.reg 4=u32m (4*z)) \/
 ((z < -536870912\/536870912<=z)/\∃ (H neg:Int) (ds:List Int),(neg=0\/neg=1)/\Digs ds/\0<ds.length/\ds.getD (ds.length-1) 0≠0/\signed neg (dval ds)=z/\st.reg 4=4*H+1/\st.reg 26=H+ds.length+2 /\
  st.mem H=32*(ds.length+1)+31/\st.mem (H+1)=4*neg/\(∀ i:Nat,i<ds.length->st.mem (H+2+i)=4*ds.getD i 0)/\(∀ j:Nat,j<ds.length+2->Dat I (H+j))/\1312<=H/\ds.length<=1000)
def PrmR (I:Img)(st:Vw)(z:Int)(short:Prop)(N:Nat)(o:BO)(k:Nat):Prop :=
 k<=N/\((∃ st',o=.ret st'/\MkR I st' z/\st'.mem 6=0/\st'.mem 8=0/\st'.inp=st.inp/\st'.out=st.out)\/∃ st',o=.halt 255 st'/\short)
end S
theorem Zyf {I:S.Img}{s:S.Vw}{H z:Int}{M N k:Nat}{o:S.BO}(h:S.ao I s H z M N o k)(hH:1312<=H):∃ st',o=.ret st'/\S.MkR I (st'.set 4 (st'.reg 4)) z/\(∀ a,a<1312->st'.mem a=s.mem a)/\st'.inp=s.inp/\st'.out=s.out/\k<=N:=by
 obtain ⟨neg,val,hneg,hv,hz,s2,ds,⟨h26,hdg,hfew,hdat,hmem⟩,hdv,hm,hr,hi,ho,st',rfl,hk,hc⟩:=h;have e4:(st'.set 4 (st'.reg 4)).reg 4=st'.reg 4:=Zj _ _ _;rcases hc with ⟨q1,q2,q3⟩ | ⟨q1,n,hT,q3,q4⟩
 ·refine ⟨st',rfl,.inl ⟨?_,?_,?_⟩,fun a ha=>?_,q3.inp.trans hi,q3.out.trans ho,hk⟩
  ·rw [<- hz,<- hdv] at *
   have:=Zi hdg;unfold S.signed;rcases hneg with rfl | rfl
   ·rw [if_pos rfl];omega
   ·rw [if_neg (by decide)];omega
  ·rw [<- hz,<- hdv] at *
   have:=Zi hdg;unfold S.signed;rcases hneg with rfl | rfl
   ·rw [if_pos rfl];omega
   ·rw [if_neg (by decide)];omega
  ·rw [e4,q2,hdv,hz]
  ·rw [q3.mem];exact hm a (by omega)
 ·have hdt:=Zao hdg n
  have hl:(ds.take n).length=n:=by rw [List.length_take];have:=hT.1;omega
  have hn0:0<n:=by
   refine Classical.byContradiction fun c=>?_
   have e0:n=0:=by omega
   have:=Zdf hT;rw [e0] at this;have e1:S.dval (ds.take 0)=0:=rfl;omega
  have m2:∀ a,st'.mem a=if a=H+1 then 4*neg else if a=H then 32*(n+1)+31 else s2.mem a:=fun a=>by
   rw [q4.mem];rfl
  refine ⟨st',rfl,.inr ⟨?_,H,neg,ds.take n,hneg,hdt,by omega,?_,?_,e4.trans q3,?_,?_,?_,fun i hi=>?_,fun j hj=>hdat j (by have:=hT.1;omega),hH,by have:=hT.1;omega⟩,fun a ha=>?_,q4.inp.trans hi,q4.out.trans ho,hk⟩
  ·rw [<- hz,<- hdv]
   unfold S.signed;rcases hneg with rfl | rfl
   ·rw [if_pos rfl];omega
   ·rw [if_neg (by decide)];omega
  ·rw [hl,Zap (by omega)]
   exact hT.2.2.resolve_left (by omega)
  ·rw [<- Zdf hT,hdv];exact hz
  ·rw [hl]
   exact (Zh st' (d:=4) (j:=26) _ (by decide)).trans ((q4.reg 26 (by decide)).trans (Zj _ _ _))
  ·rw [hl]
   show st'.mem H=_
   rw [m2,if_neg (by omega),if_pos rfl]
  ·show st'.mem (H+1)=_
   rw [m2,if_pos rfl]
  ·rw [hl] at hi
   rw [Zap hi]
   show st'.mem (H+2+i)=_
   rw [m2,if_neg (by omega),if_neg (by omega)];exact hmem i (by have:=hT.1;omega)
  ·rw [m2,if_neg (by omega),if_neg (by omega)]
   exact hm a (by omega)
section
variable {I:S.Img}(hN:S.NSegs I)
include hN
theorem Zga {dep lk:Int}{s:S.Vw}{C:Nat}{Q:List Int->S.Vw->Nat->Prop}{R:S.BO->Nat->Prop}{behind:Bool}{p q e2 nv nu:Int}{x y:List Int}{l:List S.BS}(hdep:16<=dep)(hx:S.NumAt I s.mem p nv x)(hy:S.NumAt I s.mem q nu y)(h:S.WS I dep lk behind l [p,q,e2] s (C+300) Q R):S.WS I dep lk behind (S.bTypes++l) [p,q,e2] s C Q R:=by
 show S.WS I dep lk behind (S.sWhen (S.eNot (S.eF S.kNInt [S.eL 0])) [S.sHlt (S.eC 2)]::S.sWhen (S.eNot (S.eF S.kNInt [S.eL 1])) [S.sHlt (S.eC 2)]::l) [p,q,e2] s C Q R
 refine Zp (Zhk (Zc3 (Za (Zq 0) Zg) (by simp) (Zjh hN hx) hdep) (Zn 0)) (by decide) (fun _=>?_) (fun h=>absurd rfl h);refine Zp (Zhk (Zc3 (Za (Zq 1) Zg) (by simp) (Zjh hN hy) hdep) (Zn 0)) (by decide) (fun _=>?_) (fun h=>absurd rfl h);exact h.more (by omega)
end
def S.ac (neg:Int)(ds:List Int):Int:=S.signed neg (S.dval ds)
section
variable {I:S.Img}(hN:S.NSegs I)(hG:S.CSegs I){cf:S.Cf}(hc:S.Cf.Ok I cf){T:S.Ob->Prop}
include hN hG hc
theorem Zpv {lk:Int}{s:S.Vw}{C:Nat}{Q:List Int->S.Vw->Nat->Prop}{H spare p q e2 nv nu tT z:Int}{x y:List Int}{name:ByteArray}{l:List S.BE}{d:Int}{M N:Nat}(hr:S.Rdy I cf T H spare lk s)(hx:S.NumO I cf T s.mem p nv x)(hy:S.NumO I cf T s.mem q nu y)(hfew:x.length<=40/\y.length<=40)(hd:d<=88)
 (hT:∀ ρ:List S.Ob,ρ.Nodup->(∀ o∈ρ,o∈cf.O/\T o)->S.tot ρ<=tT) (htT:tT<=1000) (hC:C<=2000) (hNb:N<=1700000)
 (hl:∀ s' p' q' L,∃ xs K,S.Yls I 88 lk [p',q',L] s' l xs K/\xs.length<=4/\K<=20/\(∀ H',s'.reg 26=H'->S.NumIn I s'.mem H' p' nv x->S.NumIn I s'.mem H' q' nu y->(∀ a,H'<=a->a<H'+3*(x.length+y.length)+20->S.Dat I a)->∀ st1,S.Sim s' st1->S.Real I name false (st1.args xs) d (fun _ o k=>S.ao I s' H' z M N o k)))
 (hdl:S.dEs l<=20) :
 S.WS I 88 lk true (S.bNRoom++[S.sVal (S.eF name l)]) [p,q,e2] s C Q (S.PrmR I s z (cf.hf<tT+(3*(x.length+y.length)+20)+spare) 2000000):=by
 have tT0:0<=tT:=hT [] Yc1 (fun o ho=>by cases ho);refine Z2q hN hG hc (by decide) hr hx hy (by omega) hT (KR:=171600) (by omega) (fun s' p' q' H' L h26 n1 n2 hdat h13 m6 m8 hi ho=>?_) (fun s' c hsh hc2=>⟨by omega,.inr ⟨s',rfl,hsh⟩⟩);obtain ⟨xs,K,hy',hlen,hK,hreal⟩:=hl s' p' q' L;refine Zlu (T:=fun o k=>S.ao I s' H' z M N o k) hy' hdl hlen (hreal H' h26 n1 n2 hdat) hd fun o k hz=>?_
 obtain ⟨st',rfl,hmk,hm,hi2,ho2,hk⟩:=Zyf hz h13;intro c hc2;exact ⟨by omega,.inl ⟨_,rfl,hmk,(hm 6 (by decide)).trans m6,(hm 8 (by decide)).trans m8,hi2.trans hi,ho2.trans ho⟩⟩
theorem Zng {st:S.Vw}{ret k:Int}{i:Nat}(hk:k=0\/k=1)(hs:S.Seg I (S.rPAdd k).name i (S.bItems (S.rPAdd k))){H spare p q nv nu tT:Int}{x y:List Int}(h4:st.reg 4=p)(h5:st.reg 5=q)(hr:S.Rdy I cf T H spare ret st)(hx:S.NumO I cf T st.mem p nv x)(hy:S.NumO I cf T st.mem q nu y)(hfew:x.length<=40/\y.length<=40)
 (hT:∀ ρ:List S.Ob,ρ.Nodup->(∀ o∈ρ,o∈cf.O/\T o)->S.tot ρ<=tT) (htT:tT<=1000) :
 S.af I (S.rPAdd k).name true st 106 ret (S.PrmR I st (if k=0 then S.ac nv x+S.ac nu y else S.ac nv x-S.ac nu y) (cf.hf<tT+(3*(x.length+y.length)+20)+spare) 2000000):=by
 have hz:∀ (z:Int),z=S.signed nv (S.dval x)+S.signed (if k=0 then nu else 1-nu) (S.dval y)->z=(if k=0 then S.ac nv x+S.ac nu y else S.ac nv x-S.ac nu y):=fun z e=>by
  rw [e];unfold S.ac;rcases hk with rfl | rfl
  ·rw [if_pos rfl,if_pos rfl]
  ·rw [if_neg (by decide),if_neg (by decide)]
   unfold S.signed;rcases hy.1.sg with rfl | rfl
   ·simp;omega
   ·simp
 rw [<- hz _ rfl];refine Zcg hN.ok (S.rPAdd k) (by rcases hk with rfl | rfl <;> kernel_rfl) hs (dep:=88) (by decide) st ret (S.PrmR I st _ (cf.hf<tT+(3*(x.length+y.length)+20)+spare) 2000000) fun env hl hp=>?_
 obtain ⟨e0,e1,e2,rfl⟩:=Zoa hl;have h0:e0=p:=(hp 0 (show (0:Int)<2 by decide)).trans h4;have h1:e1=q:=(hp 1 (show (1:Int)<2 by decide)).trans h5;subst h0 h1;refine Zga hN (by decide) hx.1 hy.1 ?_;refine Zpv hN hG hc hr hx hy hfew (d:=75) (M:=max x.length y.length+3) (N:=3000+2800*max x.length y.length) (by decide) hT htT (by decide) (by omega) (fun s' p' q' L=>⟨[p',q',k],4,Za (Zq 0) (Za (Zq 1) (Za ((Zn k).to_ (y:=k) (by omega) (Nat.le_refl _)) Zg)),by simp,by decide,fun H' h26 n1 n2 hdat st1 hs1=>?_⟩) (show (3:Nat)<=20 by decide);exact Zux hN n1 n2 hk h26 (fun j hj=>hdat _ (by omega) (by omega)) (by omega) st1 hs1
end
end
section
open Go.RowKit
def S.dh (st:S.Vw)(m:Int):S.Vw:={ st with mem:=fun a=>if a=8 then (if 6<m then 8 else m+1) else if a=6 then 0 else if a=16 then st.reg 1 else if a=23 then st.reg 10 else if 17<=a/\a<=22 then st.reg (a-13) else st.mem a }
section
variable {I:S.Img}(hI:I.Ok){cf:S.Cf}(hc:S.Cf.Ok I cf){T:S.Ob->Prop}
include hI hc
end
end
section
open Go.RowKit
namespace S
def bSp (n:Int):Item:=⟨8,⟨0,0,0,0,0⟩,bNo,n⟩
def bHalt:Item:=bI 36 0 0 0 0
def nodupB:List ByteArray->Bool
 | []=>true
 | x::r=>!(r.any fun y=>decide (x=y)) && nodupB r
def subB (a b:List ByteArray):Bool:=a.all fun s=>b.any fun t=>decide (s=t)
end S
theorem Zh8:∀ {l:List ByteArray},S.nodupB l=true->l.Nodup
 | [],_=>Yc1
 | x::r,h=>by
  rw [S.nodupB,Bool.and_eq_true] at h;refine List.nodup_cons.2 ⟨fun hx=>?_,Zh8 h.2⟩;have:(r.any fun y=>decide (x=y))=true:=Ybr.2 ⟨x,hx,decide_eq_true rfl⟩;rw [this] at h;exact absurd h.1 (by decide)
theorem Zz0 {a b:List ByteArray}(h:S.subB a b=true):∀ s∈a,s∈b:=fun s hs=>by
 obtain ⟨t,ht,he⟩:=Ybr.1 (Yaz.1 h s hs);rw [of_decide_eq_true he];exact ht
theorem Zgb (a b:List S.Obj):S.joined (a++b)=S.joined a++S.joined b:=List.flatMap_append
end
section
open Go.RowKit
theorem Znh:∀ {os:List S.Obj} {j:Nat} {o:S.Obj},os[j]?=some o->∃ A B,S.joined os=A++(o.items.map (S.ownItem o.name)++B)
 | [],j,o,h=>by cases h
 | x::r,0,o,h=>by
  cases h
  exact ⟨[],S.joined r,rfl⟩
 | x::r,j+1,o,h=>by
  obtain ⟨A,B,e⟩:=Znh (os:=r) (j:=j) h;refine ⟨S.itemsOf x++A,B,?_⟩
  show S.itemsOf x++S.joined r=_
  rw [e,Ym]
end
section
open Go.RowKit
section
variable {I:S.Img}(hI:I.Ok){i:Nat}(h0:I.i0<=i)(h1:i<I.i1)
include hI h0 h1
theorem Z1n {V:S.Vw}{s:ByteArray}{w:Int}(hx:I.xs[i]?=some ⟨1,⟨36,0,0,0,0⟩,s,w⟩){m:S.Mach}(hm:S.On I m V (I.adr i)):S.Off I (m.steps_ 1) V (V.reg 0)/\(m.steps_ 1).place=I.adr i:=by
 obtain ⟨hw,hg,hn⟩:=Zab hI h0 h1 hx;have e1:=hm.reg 0 (by decide) (by decide) (by decide);have ha':m.act ⟨36,0,0,0,0⟩=({ m with state:=1,code:=V.reg 0 },m.place,0):=by
  unfold S.Mach.act;simp only [e1];rw [if_neg (by decide),if_neg (by decide),if_neg (by decide),if_neg (by decide),if_neg (by decide),if_neg (by decide),if_neg (by decide),if_neg (by decide),if_neg (by decide),if_neg (by decide)]
 obtain ⟨hs,hp1⟩:=Z2 hI hm h0 h1 (j:=0) (y:=⟨36,0,0,0,0⟩) (by rw [hw];rfl) (by simp) hg (by rw [ha']);have hk:=Zo9 hm.ok (x:=⟨36,0,0,0,0⟩) (Int.le_refl _);rw [ha'] at hk;rw [Zc7,hs,ha'];have l1:=Zd4 hI h0;have l2:=Zd4 hI (i:=i+1) (j:=I.i1) h1;have hp:=hm.place;exact ⟨⟨placed hk.1 hk.2,rfl,rfl,hm.len,hm.code,⟨by show I.adr I.i0<=m.place;omega,by show m.place<I.adr I.i1;omega⟩,hm.reg,hm.mem,hm.inp,hm.out⟩,hp⟩
end
structure S.b8 (I:S.Img)(m:S.Mach)(st:S.Vw):Prop where
 ok:m.Ok
 len:(m.mem.length:Int)=I.size
 code:I.In m.mem
 reg:∀ j,S.visB j=true->m.rd j=st.reg j
 mem:∀ a,0<=a->a<I.size->¬ I.stk a->m.mv a=st.mem a
theorem Zu3 {j:Int}(h:S.visB j=true):0<=j/\j<=31/\j≠25:=by
 unfold S.visB at h;have:=of_decide_eq_true h;omega
theorem Zyg {I:S.Img}{m:S.Mach}{V st:S.Vw}{c:Int}(h:S.Off I m V c)(hm:S.Mt I V st):S.b8 I m st :=
 ⟨h.ok,h.len,h.code,fun j hj=>by
  obtain ⟨h1,h2,h3⟩:=Zu3 hj;rw [h.reg j h1 h2 h3];exact hm.vis j hj,fun a h1 h2 h3=>by rw [h.mem a h1 h2];exact hm.mem a h1 h2 h3⟩
end
section
open Go.RowKit
namespace S
def kLow:ByteArray:=⟨#[108,111,119]⟩
def kCall:ByteArray:=⟨#[99,97,108,108]⟩
def lowItems:List Item:=[bJ 0 kStart,bSp 1311,bL kStatic,bL kMore,bL kCode]
def callItems (op:Int):List Item:=[bL kF0,bHalt,bL kCall,bJ 31 (kRt op),bW 0,bL kAfter,bHalt,bL kEnd]
def oLow:Obj:=⟨kLow,lowItems⟩
def oCall (op:Int):Obj:=⟨kCall,callItems op⟩
def nMidO:List Obj:=objs26++objs27
def nMid:List Item:=joined nMidO
def nObjs (op:Int):List Obj:=oLow::(nMidO++[oCall op])
def nTells:List ByteArray:=[kStatic,kMore,kCode]++tells nMid++[kF0,kCall,kAfter,kEnd]
def nB:Bool:=nodupB nTells && subB (names nMid) nTells && nMid.all (fun x=>decide (chkItem x=0)) && nMid.all (fun x=>decide (0<=x.word/\x.word<=4294967295)) && decide (bulk nMid<=20000) &&
 ([8,9,10,11,12,13,14]:List Int).all (fun op=>(tells nMid).any fun t=>decide (t=kRt op))
def isOp (op:Int):Prop:=8<=op/\op<=14
end S
theorem Z5y:S.nB=true:=by kernel_rfl
theorem nB_parts:S.nTells.Nodup/\(∀ s∈S.names S.nMid,s∈S.nTells)/\S.allChk S.nMid/\(∀ x∈S.nMid,0<=x.word/\x.word<=4294967295)/\S.bulk S.nMid<=20000/\∀ op,S.isOp op->S.kRt op∈S.nTells:=by
 have h:=Z5y;unfold S.nB at h;simp only [Bool.and_eq_true] at h;obtain ⟨⟨⟨⟨⟨h1,h2⟩,h3⟩,h4⟩,h5⟩,h6⟩:=h;refine ⟨Zh8 h1,Zz0 h2,fun x hx=>of_decide_eq_true (Yaz.1 h3 x hx),fun x hx=>of_decide_eq_true (Yaz.1 h4 x hx),of_decide_eq_true h5,fun op hop=>?_⟩;have hm:op∈([8,9,10,11,12,13,14]:List Int):=by
  obtain ⟨a,b⟩:=hop;have:op=8\/op=9\/op=10\/op=11\/op=12\/op=13\/op=14:=by omega
  rcases this with rfl | rfl | rfl | rfl | rfl | rfl | rfl <;> simp
 obtain ⟨t,ht,e⟩:=Ybr.1 (Yaz.1 h6 op hm);rw [<- of_decide_eq_true e];exact List.mem_append_left _ (List.mem_append_right _ ht)
theorem Zyh (op:Int)(s:ByteArray):S.owned s (S.kRt op)=S.kRt op:=Zey s (by
 have h1:(S.kRt op).size≠0:=by
  show ([114,116]++S.itoa op).toArray.size≠0
  simp
 have h2:S.dotted (S.kRt op)=false:=by
  show (([114,116]++S.itoa op).toArray.toList.head?==some 46)=false
  simp
 unfold S.labB;rw [decide_eq_true h1,h2];rfl)
theorem Zcw (op:Int):S.joined (S.nObjs op)=S.lowItems++(S.nMid++S.callItems op):=by
 have e:S.nObjs op=[S.oLow]++(S.nMidO++[S.oCall op]):=rfl;have h1:S.joined [S.oLow]=S.lowItems:=rfl;have h2:S.joined [S.oCall op]=S.callItems op:=by
  have:S.joined [S.oCall op]=(S.callItems op).map (S.ownItem S.kCall):=by simp [S.joined,S.itemsOf,S.oCall]
  rw [this]
  show [S.bL S.kF0,S.bHalt,S.bL S.kCall,S.ownItem S.kCall (S.bJ 31 (S.kRt op)),S.bW 0,S.bL S.kAfter,S.bHalt,S.bL S.kEnd]=_
  have:S.ownItem S.kCall (S.bJ 31 (S.kRt op))=S.bJ 31 (S.kRt op):=by
   show (⟨4,⟨0,31,0,0,0⟩,S.owned S.kCall (S.kRt op),0⟩:S.Item)=_
   rw [Zyh];rfl
  rw [this];rfl
 rw [e,Zgb,Zgb,h1,h2];rfl
theorem Z7k {α:Type}(A B C:List α)(k:Nat):(A++(B++C))[A.length+B.length+k]?=C[k]?:=by
 rw [Yn (by omega),Yn (by omega)]
 congr 1
 omega
attribute [local irreducible] S.nMid
theorem Zhn (op:Int)(k:Nat):(S.joined (S.nObjs op))[5+S.nMid.length+k]?=(S.callItems op)[k]?:=by
 have h:=Z7k S.lowItems S.nMid (S.callItems op) k;have e:S.lowItems.length=5:=rfl;rw [e] at h;rw [Zcw];exact h
theorem Zyi (op:Int):S.allChk (S.callItems op):=by
 have hh:S.chkItem S.bHalt=0:=Z37 (Zvh (.inr rfl) (by decide));exact Z8 (Zi7 _) (Z8 hh (Z8 (Zi7 _) (Z8 (Zz1 _ (by decide)) (Z8 (by simp [S.chkItem,S.bW]) (Z8 (Zi7 _) (Z8 hh (Zkw (Zi7 _))))))))
theorem Z1o:S.allChk S.lowItems:=Z8 (Zz1 _ (by decide)) (Z8 (by simp [S.chkItem,S.bSp]) (Z8 (Zi7 _) (Z8 (Zi7 _) (Zkw (Zi7 _)))))
def S.aa (b:Bool)(op:Int)(F:List Int)(size:Int):S.Img:=⟨S.joined (S.nObjs op),F,size,5,if b=true then (S.joined (S.nObjs op)).length else 5+S.nMid.length,1056,1312⟩
theorem Zni (op:Int):(S.joined (S.nObjs op)).length=5+S.nMid.length+8:=by
 rw [Zcw,Yd,Yd,show S.lowItems.length=5 from rfl,show (S.callItems op).length=8 from rfl];omega
theorem Zu4 (op:Int):∀ x∈S.joined (S.nObjs op),0<=x.word/\x.word<=4294967295:=by
 intro x hx;rw [Zcw] at hx;rcases Y2.1 hx with h | h
 ·unfold S.lowItems at h
  simp only [Yz,Yaq,or_false] at h;rcases h with rfl | rfl | rfl | rfl | rfl <;> decide
 ·rcases Y2.1 h with h | h
  ·exact nB_parts.2.2.2.1 x h
  ·unfold S.callItems at h
   simp only [Yz,Yaq,or_false] at h;rcases h with rfl | rfl | rfl | rfl | rfl | rfl | rfl | rfl
   all_goals (show (0:Int)<=0/\(0:Int)<=4294967295;decide)
theorem Zq7 {xs:List S.Item}{F:List Int}(h:S.FormsRes xs 0 0 F)(hc:S.allChk xs)(hw:∀ x∈xs,0<=x.word/\x.word<=4294967295)(hb:S.addr xs F 0 xs.length<=1000000){i:Nat}{x:S.Item}(hx:xs[i]?=some x)(hk:x.kind=4):F.getD i 0=1:=by
 rcases h with ⟨h,_⟩ | ⟨_,h,_⟩ | ⟨hck,_,hinv,hst,_⟩
 ·exact absurd rfl h
 ·omega
 obtain ⟨G,hG⟩:∃ G,G=(List.range xs.length).map fun j:Nat=>(match xs[j]? with | some y=>if y.kind=4 then (1:Int) else F.getD j 0 | none=>0):=⟨_,rfl⟩
 have hGl:G.length=xs.length:=by rw [hG];simp
 have hGd:∀ (j:Nat) (y:S.Item),xs[j]?=some y->G.getD j 0=if y.kind=4 then 1 else F.getD j 0:=fun j y hy=>by
  have hj:=(Yg.1 hy).1;rw [hG,Zcz _ _ _ hj,hy]
 have hFok:=hst.1;have hGok:S.FormOk xs G:=⟨hGl,fun j y hy=>by
  obtain ⟨q1,q2,q3⟩:=hFok.2 j y hy;rw [hGd j y hy];by_cases c:y.kind=4
  ·rw [if_pos c]
   exact ⟨fun e=>by omega,fun _=>by decide,fun _ e=>absurd c e⟩
  ·rw [if_neg c]
   exact ⟨q1,fun e=>absurd e c,q3⟩⟩
 have hle:∀ j,G.getD j 0<=F.getD j 0:=fun j=>by
  cases hy:xs[j]? with
  | none =>
   rw [List.getElem?_eq_none_iff] at hy;rw [Ye,List.getElem?_eq_none (by omega),Ye,List.getElem?_eq_none (by rw [hFok.1];exact hy)];exact Int.le_refl _
  | some y =>
   rw [hGd j y hy]
   split
   ·rename_i c;exact ((hFok.2 j y hy).2.1 c).1
   ·exact Int.le_refl _
 have hdist:∀ p d:Nat,S.addr xs G 0 (p+d)-S.addr xs G 0 p<=S.addr xs F 0 (p+d)-S.addr xs F 0 p:=fun p d=>Zfy hGok hFok hle p d
 have hup:∀ p d:Nat,S.addr xs G 0 p<=S.addr xs G 0 (p+d):=fun p d=>Zgy hGok hw p d
 have hG0:S.addr xs G 0 xs.length<=1000000:=by
  have:=hdist 0 xs.length;rw [Yaa] at this;have e1:S.addr xs G 0 0=0:=rfl;have e2:S.addr xs F 0 0=0:=rfl;omega
 have hrange:∀ p:Nat,p<=xs.length->0<=S.addr xs G 0 p/\S.addr xs G 0 p<=1000000:=fun p hp=>by
  have h1:=hup 0 p;have h2:=hup p (xs.length-p);rw [Yaa] at h1;rw [show p+(xs.length-p)=xs.length by omega] at h2;have e1:S.addr xs G 0 0=0:=rfl;omega
 have hstands:∀ (s:ByteArray),(S.stands xs s).toNat<=xs.length:=fun s=>by
  rcases Zay xs s with ⟨h1,_⟩ | ⟨j,y,h1,h2,_⟩
  ·rw [h1];exact Nat.zero_le _
  ·have:=(Yg.1 h2).1
   omega
 have hGst:S.Stable xs 0 G:=⟨hGok,fun j y hy=>by
  have hj:=(Yg.1 hy).1;have hs:=hstands y.label;generalize hse:(S.stands xs y.label).toNat=q at hs;unfold S.fit;rw [hse];have hgd:=hGd j y hy;by_cases c4:y.kind=4
  ·rw [if_pos c4] at hgd
   rw [if_neg (by omega),if_neg (by omega)];have r1:=hrange q hs;have r2:=hrange (j+1) (by omega);exact decide_eq_true ⟨by omega,by omega⟩
  ·rw [if_neg c4] at hgd
   have hf:=hst.2 j y hy;unfold S.fit at hf;rw [hse] at hf;rw [hgd]
   split
   ·rfl
   ·rename_i n1
    rw [if_neg n1] at hf
    split
    ·rename_i n2
     rw [if_pos n2] at hf;have hf2:=of_decide_eq_true hf;refine decide_eq_true ?_;rcases Nat.le_total q (j+1) with le | le
     ·obtain ⟨d,hd⟩:=Nat.le.dest le
      have h1:=hdist q d;have h2:=hup q d;rw [hd] at h1 h2;omega
     ·obtain ⟨d,hd⟩:=Nat.le.dest le
      have h1:=hdist (j+1) d;have h2:=hup (j+1) d;rw [hd] at h1 h2;omega
    ·rename_i n2
     have r1:=hrange q hs;have r2:=hrange (j+1) (by omega);exact decide_eq_true ⟨by omega,by omega⟩⟩
 have h1:=hinv.2 G hGst i;rw [hGd i x hx,if_pos hk] at h1;have:=((hFok.2 i x hx).2.1 hk).1;omega
theorem Z6t {op:Int}(hop:S.isOp op){e:Int}{F:List Int}{size:Int}(h:S.FormsRes (S.joined (S.nObjs op)) 0 e F)(hsz:e=0->S.addr (S.joined (S.nObjs op)) F 0 (S.joined (S.nObjs op)).length<size)(hsz2:size<=335544320) :
 e=0/\(∀ b,(S.aa b op F size).Ok)/\S.addr (S.joined (S.nObjs op)) F 0 (S.joined (S.nObjs op)).length<=30000/\F.getD 0 0=1/\F.getD (5+S.nMid.length+3) 0=1:=by
 obtain ⟨p1,p2,p3,p4,p5,p6⟩:=nB_parts;have hx:=Zcw op;have hw:=Zu4 op;have k1:S.tells (S.joined (S.nObjs op))=S.nTells:=by
  rw [hx,Zho,Zho]
  show [S.kStatic,S.kMore,S.kCode]++(S.tells S.nMid++[S.kF0,S.kCall,S.kAfter,S.kEnd])=_
  rw [<- Ym];rfl
 have k2:∀ s∈S.names (S.joined (S.nObjs op)),s∈S.nTells:=fun s hs=>by
  rw [hx,Zhp,Zhp] at hs;rcases Y2.1 hs with q | q
  ·have q':s∈[S.kStart]:=q
   rw [Y9] at q';rw [q'];exact Zz0 (a:=[S.kStart]) (b:=S.nTells) (by kernel_rfl) _ List.mem_cons_self
  ·rcases Y2.1 q with q | q
   ·exact p2 s q
   ·have q':s∈[S.kRt op]:=q
    rw [Y9] at q';rw [q'];exact p6 op hop
 have k3:S.allChk (S.joined (S.nObjs op)):=by
  rw [hx];exact Zgd Z1o (Zgd p3 (Zyi op))
 have k4:S.bulk (S.joined (S.nObjs op))<=30000:=by
  rw [hx,Zfm,Zfm];have e1:S.bulk S.lowItems=1327:=by decide
  have e2:S.bulk (S.callItems op)=32:=by
   show (4:Int)+(4+(4+(4+(4+(4+(4+(4+0)))))))=32
   decide
  omega
 obtain ⟨e0,hF,ha⟩:=Z36 h k3 (by rw [k1];exact p1) (by rw [k1];exact k2) (by omega);subst e0;have hsz':=hsz rfl;have hl:=Zni op;have hj:=Zq7 h k3 hw (by omega) (i:=0) (x:=S.bJ 0 S.kStart) (by rw [hx];rfl) rfl;have hj2:=Zq7 h k3 hw (by omega) (i:=5+S.nMid.length+3) (x:=S.bJ 31 (S.kRt op)) (by
  rw [Zhn];rfl) rfl
 have a5:S.addr (S.joined (S.nObjs op)) F 0 5=1312:=by
  have hx0:∀ k:Nat,k<5->(S.joined (S.nObjs op))[k]?=S.lowItems[k]?:=fun k hk=>by rw [hx,List.getElem?_append_left hk]
  have s0:S.sizeAt (S.joined (S.nObjs op)) F 0=1:=by
   unfold S.sizeAt;rw [hx0 0 (by decide)]
   show S.size (S.bJ 0 S.kStart) (F.getD 0 0)=1
   rw [hj]
   decide
  have s1:S.sizeAt (S.joined (S.nObjs op)) F 1=1311:=by
   unfold S.sizeAt;rw [hx0 1 (by decide)]
   show S.size (S.bSp 1311) (F.getD 1 0)=1311
   unfold S.size S.bSp;simp
  have sl:∀ k:Nat,2<=k->k<5->S.sizeAt (S.joined (S.nObjs op)) F k=0:=fun k h2 h5=>by
   unfold S.sizeAt;rw [hx0 k h5]
   match k,h2,h5 with
   | 2,_,_=>rfl
   | 3,_,_=>rfl
   | 4,_,_=>rfl
  show 0+S.sizeAt _ F 0+S.sizeAt _ F 1+S.sizeAt _ F 2+S.sizeAt _ F 3+S.sizeAt _ F 4=1312
  rw [s0,s1,sl 2 (by decide) (by decide),sl 3 (by decide) (by decide),sl 4 (by decide) (by decide)]
  decide
 have hmo:=Zee hF hw (base:=0) (i:=5) (n:=(S.joined (S.nObjs op)).length) (by omega);refine ⟨rfl,fun b=>⟨h,hw,by show 5<=(if b=true then _ else _);split <;> omega,by show (if b=true then _ else _)<=(S.joined (S.nObjs op)).length;split <;> omega,hsz',hsz2,by show (0:Int)<=1056;decide,by show (1056:Int)<=1312;decide,by show (1312:Int)<=size;omega,.inl ?_⟩,by omega,hj,hj2⟩
 show (1312:Int)<=S.addr (S.joined (S.nObjs op)) F 0 5
 omega
end
section
open Go.RowKit
namespace S
def plain (w:Int):Int:=if w%4=1\/w%4=3 then w-1 else w
end S
end
section
open Go.RowKit
def ReadsP (w:World)(B:Nat)(A:Option Addr)(L:List (ByteArray×Int)):Prop :=
 0<L.length->∃ b off,A=some ⟨b,off,none⟩/\b<B/\∀ i p,L[i]?=some p->w.cell? ⟨b,off+i*2,none⟩=some (.string p.1)/\w.cell? ⟨b,off+i*2+1,none⟩=some (.int .i64 p.2)
theorem ReadsP.below {w w':World}{B:Nat}{A:Option Addr}{L:List (ByteArray×Int)}(h:ReadsP w B A L)(hb:Below B w w'):ReadsP w' B A L:=fun hp=>by
 obtain ⟨b,off,e,hbB,hc⟩:=h hp;exact ⟨b,off,e,hbB,fun i p hx=>⟨(hb.cell (p:=⟨b,off+i*2,none⟩) hbB).trans (hc i p hx).1,(hb.cell (p:=⟨b,off+i*2+1,none⟩) hbB).trans (hc i p hx).2⟩⟩
theorem Zyj (L:List (ByteArray×Int))(i:Nat)(p:ByteArray×Int)(h:L[i]?=some p):(L.flatMap Zaj)[i*2]?=some (.string p.1)/\(L.flatMap Zaj)[i*2+1]?=some (.int .i64 p.2):=by
 induction L generalizing i with
 | nil=>simp at h
 | cons q L ih =>
  cases i with
  | zero =>
   simp only [List.getElem?_cons_zero,Option.some.injEq] at h;subst h;simp [Zaj]
  | succ i =>
   have h1:=ih i (by simpa using h);have e1:(i+1)*2=i*2+1+1:=by omega
   rw [Yba,e1]
   simpa [Zaj] using h1
theorem Zyk (L:List (ByteArray×Int)):(L.flatMap Zaj).length=L.length*2:=by
 induction L with
 | nil=>rfl
 | cons q L ih=>rw [Yba,Yd,ih];simp [Zaj];omega
theorem ReadsP.of_own {w:World}{base:Nat}{e:TypeId}{A:Option Addr}{m c n:Nat}{L:List (ByteArray×Int)}(h:w.ownsRow base e 2 (.slice A m c) n (L.flatMap Zaj)):ReadsP w w.heap.size A L:=fun hp=>by
 have hl:(L.flatMap Zaj).length=n*2:=h.1;rw [Zyk] at hl;obtain ⟨g,rfl,hg1,hg2,hg3,hg4,_⟩:=Z1 h (by omega);refine ⟨g,0,rfl,hg2,fun i p hx=>?_⟩;have hi:=(Yg.1 hx).1;obtain ⟨f1,f2⟩:=Zyj L i p hx;refine ⟨?_,?_⟩
 ·rw [Yaa,hg4 _ (by omega),f1]
 ·rw [Yaa,hg4 _ (by omega),f2]
end
section
open Go.RowKit
theorem Zpw {m:S.Mach}{i v:Int}(h0:0<=i)(h1:i<m.mem.length):m.putV i v={ m with mem:=m.mem.set i.toNat v }:=by
 unfold S.Mach.putV;rw [if_pos ⟨h0,h1⟩]
theorem Zgc (m:S.Mach)(i v:Int):(m.putV i v).reg=m.reg/\(m.putV i v).place=m.place/\(m.putV i v).input=m.input/\(m.putV i v).out=m.out/\(m.putV i v).state=m.state/\(m.putV i v).steps=m.steps/\(m.putV i v).mem.length=m.mem.length:=by
 unfold S.Mach.putV
 split <;> simp
theorem Zu5 {m:S.Mach}{i v a:Int}(h0:0<=i)(h1:i<m.mem.length)(ha:0<=a):(m.putV i v).mv a=if a=i then v else m.mv a:=by
 rw [Zpw h0 h1]
 show (m.mem.set i.toNat v).getD a.toNat 0=if a=i then v else m.mem.getD a.toNat 0
 by_cases c:a=i
 ·subst c
  rw [if_pos rfl];have:a.toNat<m.mem.length:=by omega
  simp [this]
 ·rw [if_neg c]
  have:¬ i.toNat=a.toNat:=by omega
  simp only [Ye,Ybb this]
theorem Zu6 (m:S.Mach)(i v j:Int):(m.putV i v).rd j=m.rd j:=by
 unfold S.Mach.rd;rw [(Zgc m i v).1]
theorem Zi5 {m:S.Mach}{i v:Int}(h0:0<i)(h1:i<32):m.setV i v={ m with reg:=m.reg.set i.toNat v }:=by
 unfold S.Mach.setV S.Mach.put;rw [if_pos ⟨by omega,h1⟩,if_neg (by omega)]
theorem Zu7 {m:S.Mach}(h:m.Ok){i v j:Int}(h0:0<i)(h1:i<32):(m.setV i v).rd j=if j=i then v else m.rd j:=by
 rw [Zi5 h0 h1];have hr:=h.regs
 show (m.reg.set i.toNat v).getD j.toNat 0=if j=i then v else m.reg.getD j.toNat 0
 by_cases c:j=i
 ·subst c
  rw [if_pos rfl];have:j.toNat<m.reg.length:=by omega
  simp [this]
 ·rw [if_neg c]
  have:¬ i.toNat=j.toNat:=by omega
  simp only [Ye,Ybb this]
theorem Zu8 {m:S.Mach}{i v a:Int}(h0:0<i)(h1:i<32):(m.setV i v).mv a=m.mv a:=by
 rw [Zi5 h0 h1];rfl
theorem Zu9 {m:S.Mach}{i:Int}(h0:0<=i)(h1:i<32):m.regV i=m.rd i:=by
 unfold S.Mach.regV;rw [if_pos ⟨h0,h1⟩];rfl
theorem Z34 {m:S.Mach}{i:Int}(h0:0<=i)(h1:i<m.mem.length):m.memV i=m.mv i:=by
 unfold S.Mach.memV;rw [if_pos ⟨h0,h1⟩];rfl
theorem Zva {I:S.Img}(hI:I.Ok){mem:List Int}(h:I.In mem){p:Int}(hp:0<=p)(hc:¬ I.code p)(v:Int):I.In (mem.set p.toNat v):=fun k k0 k1 j w hv=>by
 have hold:=h k k0 k1 j w hv;have hlt:=(Yg.1 hv).1;have hlen:=Za5 (base:=0) (Za1 hI) (Zcv (Zck hI)) hI.words k;have hnx:I.adr (k+1)=I.adr k+S.sizeAt I.xs I.F k:=rfl;have l1:=Zd4 hI (i:=I.i0) (j:=k) k0;have l2:=Zd4 hI (i:=k+1) (j:=I.i1) k1;have l3:=Zpa hI k;have hne:¬ p.toNat=(I.adr k).toNat+j:=by
  intro e;exact hc ⟨by omega,by omega⟩
 rw [<- hold];simp only [Ye,Ybb hne]
theorem Zvb {m:S.Mach}(h:m.Ok){i v:Int}(hv:0<=v/\v<=4294967295):(m.putV i v).Ok:=by
 unfold S.Mach.putV
 split
 ·rename_i c
  refine ⟨h.regs,h.word,h.zero,by simpa using h.mem,fun j=>?_,h.place0,h.place1,h.inp,h.outp,h.code0,h.code1⟩
  show 0<=(m.mem.set i.toNat v).getD j 0/\(m.mem.set i.toNat v).getD j 0<=4294967295
  by_cases e:i.toNat=j
  ·subst e
   have:i.toNat<m.mem.length:=by omega
   simp [this];exact hv
  ·have:=h.memw j
   simp only [Ye,Ybb e] at this ⊢;exact this
 ·exact h
theorem Zsc (n f a t:Int):S.wordsOf (S.bSp n) f a t=List.replicate n.toNat 0:=by
 have hk:(S.bSp n).kind=8:=rfl;unfold S.wordsOf;rw [hk,if_neg (by decide),if_neg (fun h=>absurd h.1 (by decide)),if_neg (fun h=>absurd h.1 (by decide)),if_neg (by decide),if_neg (fun h=>absurd h.1 (by decide)),if_neg (by decide),if_neg (by decide),if_neg (by decide),if_neg (by decide),if_pos rfl];rfl
theorem Zvc (n f a t:Int):S.wordsOf (S.bW n) f a t=[n]:=by
 have hk:(S.bW n).kind=6:=rfl;unfold S.wordsOf;rw [hk,if_neg (by decide),if_neg (fun h=>absurd h.1 (by decide)),if_neg (fun h=>absurd h.1 (by decide)),if_neg (by decide),if_neg (fun h=>absurd h.1 (by decide)),if_neg (by decide),if_neg (by decide),if_pos rfl];rfl
end
end Go.Proofs.YtfhiobkkdcdmiaaGreatDoor
