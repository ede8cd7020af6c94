/- Parts. -/
import Derived.Test.YtfhiobkkdcdmiaaGreatDoorZGWld
import Derived.Deep.MidRow
import Derived.Deep.LoopGhost
set_option linter.all false
open List renaming length_append->Yd,getElem?_eq_some_iff->Yg,length_cons->Yi,getElem?_append_left->Yk,getElem?_append_right->Yn,mem_cons_self->Yt,mem_cons_of_mem->Yy,mem_cons->Yz,length_map->Yan,not_mem_nil->Yaq,any_eq_true->Ybr
open Bool renaming and_eq_true->Yr,or_eq_true->Yb0
open Nat renaming zero_add->Yaa,add_zero->Ybe
open Go.Region renaming waitsFor->Ybp,binds->Yby
namespace Go.Proofs.YtfhiobkkdcdmiaaGreatDoor
section
open Go.RowKit
attribute [local irreducible] S.nMid
theorem Zbs (m:S.Mach)(d v:Int):(m.put d v).state=m.state:=by
 unfold S.Mach.put
 split <;> rfl
theorem Zsz (m:S.Mach)(i:S.Inst):(m.act i).1.state=m.state\/m.act i=({ m with state:=1,code:=m.rd i.a },m.place,0):=by
 unfold S.Mach.act
 extract_lets a b imm next at_
 split
 ·split
  ·exact .inl rfl
  ·exact .inl (Zbs _ _ _)
 split
 ·exact .inl (Zbs _ _ _)
 split
 ·exact .inl (Zbs _ _ _)
 split
 ·split
  ·exact .inl (Zbs _ _ _)
  ·exact .inl rfl
 split
 ·split
  ·exact .inl rfl
  ·exact .inl rfl
 split
 ·exact .inl rfl
 split
 ·exact .inl (Zbs _ _ _)
 split
 ·exact .inl (Zbs _ _ _)
 split
 ·split
  ·exact .inl (Zbs _ _ _)
  ·exact .inl (Zbs _ _ _)
 split
 ·exact .inl rfl
 ·exact .inr rfl
theorem Zqf {m:S.Mach}(h0:m.state=0)(h1:m.step.state=1):m.step.place=m.place/\m.step.mem=m.mem/\m.step.reg=m.reg/\m.step.code=m.rd (S.dec (m.mem.getD m.place.toNat 0)).a:=by
 have e:m.step=m.step:=rfl;unfold S.Mach.step at h1 ⊢;rw [if_neg (by omega)] at h1 ⊢
 split at h1
 ·exact absurd h1 (by show ¬ (2:Int)=1;decide)
 rename_i c1
 rw [if_neg c1]
 split at h1
 ·exact absurd h1 (by show ¬ (2:Int)=1;decide)
 rename_i c2
 rw [if_neg c2]
 split at h1
 ·exact absurd h1 (by show ¬ (2:Int)=1;decide)
 rename_i c3
 rw [if_neg c3];rcases Zsz m (S.dec (m.mem.getD m.place.toNat 0)) with h | h
 ·have:(m.act (S.dec (m.mem.getD m.place.toNat 0))).1.state=1:=h1
  omega
 ·rw [h]
  exact ⟨rfl,rfl,rfl,rfl⟩
theorem Zot {m:S.Mach}(h0:m.state=0):∀ j:Nat,(m.steps_ j).state=1->∃ k,(m.steps_ k).state=0/\(m.steps_ k).step=m.steps_ j
 | 0,h=>by
  have:m.state=1:=h;omega
 | j+1,h=>by
  by_cases c:(m.steps_ j).state=0
  ·exact ⟨j,c,rfl⟩
  ·have e:m.steps_ (j+1)=m.steps_ j:=by
    show (m.steps_ j).step=m.steps_ j
    unfold S.Mach.step;rw [if_pos c]
   rw [e] at h ⊢;exact Zot h0 j h
theorem Zzc {I:S.Img}(hI:I.Ok){m:S.Mach}(h0:m.state=0){j:Nat}{V:S.Vw}{c:Int}(h:S.Off I (m.steps_ j) V c){i:Nat}{s:ByteArray}{w:Int}(hi0:I.i0<=i)(hi1:i<I.i1)(hx:I.xs[i]?=some ⟨1,⟨36,0,0,0,0⟩,s,w⟩)(hp:(m.steps_ j).place=I.adr i):c=0:=by
 obtain ⟨k,hk,he⟩:=Zot h0 j h.end_;obtain ⟨q1,q2,q3,q4⟩:=Zqf hk (by rw [he];exact h.end_);rw [he] at q1 q2 q3 q4;obtain ⟨hw,hg,hn⟩:=Zab hI hi0 hi1 hx;have hin:=h.code i hi0 hi1 0 (S.wordOf ⟨36,0,0,0,0⟩) (by rw [hw];rfl);rw [Ybe] at hin;rw [<- q1,<- q2,hp,hin] at q4;have e1:S.dec (S.wordOf ⟨36,0,0,0,0⟩)=⟨36,0,0,0,0⟩:=by
  have e:S.wordOf ⟨36,0,0,0,0⟩=S.enc ⟨36,0,0,0,0⟩:=by unfold S.wordOf;rw [if_pos hg]
  rw [e];exact (Ztl hg).1
 rw [e1] at q4;have z:=h.ok.zero;rw [<- h.codeIs,q4]
 show (m.steps_ k).reg.getD 0 0=0
 rw [<- q3];exact z
structure S.az (I:S.Img)(B:Nat)(a:Int):Prop where
 code:I.lab S.kCode=1312
 call:I.lab S.kCall=a+1
 at3:I.adr (B+3)=a+1
 at4:I.adr (B+4)=a+2
 after:I.lab S.kAfter=a+3
 at6:I.adr (B+6)=a+3
 end_:I.lab S.kEnd=a+4
 top:I.adr I.xs.length=a+4
 i0:I.adr 5=1312
 a0:1312<=a
theorem Zzd {I:S.Img}{B:Nat}{op:Int}(hI:I.Ok)(hlow:∀ k:Nat,k<5->I.xs[k]?=S.lowItems[k]?)(hcall:∀ k:Nat,I.xs[B+k]?=(S.callItems op)[k]?)(hlen:I.xs.length=B+8)(h0:I.F.getD 0 0=1)(h3:I.F.getD (B+3) 0=1)(hB:5<=B):∃ a,S.az I B a:=by
 have hla:∀ {i:Nat} {x:S.Item},I.xs[i]?=some x->x.kind=2->I.lab x.label=I.adr i:=fun hx hk=>by
  unfold S.Img.lab;rw [Zip hI hx hk];rfl
 have n0:=Z9 hI (i:=0) (x:=S.bJ 0 S.kStart) (hlow 0 (by decide));have n1:=Z9 hI (i:=1) (x:=S.bSp 1311) (hlow 1 (by decide));have n2:I.adr 3=I.adr 2+0:=Z9 hI (i:=2) (x:=S.bL S.kStatic) (hlow 2 (by decide));have n3:I.adr 4=I.adr 3+0:=Z9 hI (i:=3) (x:=S.bL S.kMore) (hlow 3 (by decide));have n4:I.adr 5=I.adr 4+0:=Z9 hI (i:=4) (x:=S.bL S.kCode) (hlow 4 (by decide));have z0:I.adr 0=0:=rfl;have s0:S.size (S.bJ 0 S.kStart) (I.F.getD 0 0)=1:=by rw [h0];decide
 have s1:S.size (S.bSp 1311) (I.F.getD 1 0)=1311:=by unfold S.size S.bSp;simp
 rw [s0] at n0;rw [s1] at n1;have x0:I.xs[B]?=some (S.bL S.kF0):=hcall 0;have x1:I.xs[B+1]?=some S.bHalt:=hcall 1;have x2:I.xs[B+2]?=some (S.bL S.kCall):=hcall 2;have x3:I.xs[B+3]?=some (S.bJ 31 (S.kRt op)):=hcall 3;have x4:I.xs[B+4]?=some (S.bW 0):=hcall 4;have x5:I.xs[B+5]?=some (S.bL S.kAfter):=hcall 5;have x6:I.xs[B+6]?=some S.bHalt:=hcall 6;have x7:I.xs[B+7]?=some (S.bL S.kEnd):=hcall 7;have c0:I.adr (B+1)=I.adr B+0:=Z9 hI x0;have c1:I.adr (B+2)=I.adr (B+1)+1:=Z9 hI x1;have c2:I.adr (B+3)=I.adr (B+2)+0:=Z9 hI x2;have c3:I.adr (B+4)=I.adr (B+3)+S.size (S.bJ 31 (S.kRt op)) (I.F.getD (B+3) 0):=Z9 hI x3;have c4:I.adr (B+5)=I.adr (B+4)+1:=Z9 hI x4;have c5:I.adr (B+6)=I.adr (B+5)+0:=Z9 hI x5;have c6:I.adr (B+7)=I.adr (B+6)+1:=Z9 hI x6;have c7:I.adr (B+8)=I.adr (B+7)+0:=Z9 hI x7;have s3:S.size (S.bJ 31 (S.kRt op)) (I.F.getD (B+3) 0)=1:=by
  rw [h3];unfold S.size S.bJ;simp
 rw [s3] at c3;have l0:I.lab S.kCode=I.adr 4:=hla (x:=S.bL S.kCode) (hlow 4 (by decide)) rfl;have l2:I.lab S.kCall=I.adr (B+2):=hla x2 rfl;have l5:I.lab S.kAfter=I.adr (B+5):=hla x5 rfl;have l7:I.lab S.kEnd=I.adr (B+7):=hla x7 rfl;have hmo:=Zd4 hI (i:=5) (j:=B) (by omega);have e1:I.adr (0+1)=I.adr 1:=rfl;have e2:I.adr (1+1)=I.adr 2:=rfl;rw [e1] at n0;rw [e2] at n1;rw [<- hlen] at c7;clear x0 x1 x2 x3 x4 x5 x6 x7 hla hlow hcall s0 s1 s3;exact ⟨I.adr B,by omega,by omega,by omega,by omega,by omega,by omega,by omega,by omega,by omega,by omega⟩
section
variable {op:Int}{F:List Int}{size:Int}
theorem Zze {j:Nat}{o:S.Obj}(hj:S.nMidO[j]?=some o):∃ i,S.Seg (S.aa true op F size) o.name i o.items:=by
 obtain ⟨A,B,e⟩:=Znh hj;have hx:=Zcw op;have hl:S.lowItems.length=5:=rfl;have hm:S.nMid=A++(o.items.map (S.ownItem o.name)++B):=by
  unfold S.nMid;exact e
 refine ⟨5+A.length,fun k x hk=>?_,by show 5<=5+A.length;omega,?_⟩
 ·show (S.joined (S.nObjs op))[_]?=_
  rw [hx,Yn (by omega),hl,hm];have hlt:=(Yg.1 hk).1;rw [Yk (by simp only [Yd,Yan];omega),Yn (by omega),Yk (by rw [Yan];omega)];rw [show 5+A.length+k-5-A.length=k from by omega,List.getElem?_map,hk];rfl
 ·show _<=(S.joined (S.nObjs op)).length
  rw [Zni,hm];simp only [Yd,Yan];omega
theorem Zam {j:Nat}{r:S.BR}(hj:S.nMidO[j]?=some (S.ofR r)):∃ i,S.Seg (S.aa true op F size) r.name i (S.bItems r):=Zze hj
variable (hI:(S.aa true op F size).Ok)
include hI
theorem Z0g:S.NSegs (S.aa true op F size) :=
 ⟨hI,Zam (r:=S.rNInt) (j:=15) rfl,Zam (r:=S.rNLen) (j:=16) rfl,Zam (r:=S.rNNeg) (j:=17) rfl,Zam (r:=S.rNDig) (j:=18) rfl,Zam (r:=S.rNCmp) (j:=19) rfl,Zam (r:=S.rNFin) (j:=20) rfl,Zam (r:=S.rNAdd) (j:=21) rfl,Zam (r:=S.rNSub) (j:=22) rfl,Zam (r:=S.rNSum) (j:=23) rfl,Zam (r:=S.rNMul) (j:=24) rfl,Zam (r:=S.rNTop) (j:=25) rfl,Zam (r:=S.rNShl) (j:=26) rfl,Zam (r:=S.rNTake) (j:=27) rfl,Zam (r:=S.rNBack) (j:=28) rfl,Zam (r:=S.rNDiv) (j:=29) rfl⟩
theorem Z2s:S.CSegs (S.aa true op F size):=⟨Zam (r:=S.rMove) (j:=2) rfl,Zam (r:=S.rScan) (j:=3) rfl,Zam (r:=S.rFrame) (j:=4) rfl,Zam (r:=S.rCollect) (j:=5) rfl,Zam (r:=S.rReserve) (j:=6) rfl⟩
theorem Z46 (h0:F.getD 0 0=1)(h3:F.getD (5+S.nMid.length+3) 0=1):∃ a,S.az (S.aa true op F size) (5+S.nMid.length) a :=
 Zzd (op:=op) hI (fun k hk=>by
  show (S.joined (S.nObjs op))[k]?=_
  rw [Zcw,Yk hk]) (fun k=>Zhn op k) (Zni op) h0 h3 (Nat.le_add_right 5 _)
structure S.de (op:Int)(F:List Int)(size:Int)(m:S.Mach):Prop where
 ok:m.Ok
 run:m.state=0
 len:(m.mem.length:Int)=size
 code:(S.aa true op F size).In m.mem
 place:m.place=(S.aa true op F size).lab S.kCall
 r28:m.rd 28=1056
theorem Z7u {a:Int}(hL:S.az (S.aa true op F size) (5+S.nMid.length) a){m:S.Mach}(hm:S.de op F size m):∃ k,k<=3/\S.On (S.aa true op F size) (m.steps_ k) ((S.viewOf m).set 31 (a+2)) ((S.aa true op F size).lab (S.kRt op)):=by
 have hon:S.On (S.aa true op F size) m (S.viewOf m) ((S.aa true op F size).lab S.kCall):=⟨hm.ok,hm.run,hm.len,hm.code,hm.place,fun _ _ _ _=>rfl,fun _ _ _=>rfl,rfl,rfl⟩
 have x3:(S.aa true op F size).xs[5+S.nMid.length+3]?=some (S.bJ 31 (S.kRt op)):=Zhn op 3;have g:=Zqv hI (i:=5+S.nMid.length+3) (by show 5<=_;omega) (by show _<(S.joined (S.nObjs op)).length;rw [Zni];omega) (V:=S.viewOf m) x3 (by decide) (by decide);rw [hL.at3,show 5+S.nMid.length+3+1=5+S.nMid.length+4 by omega,hL.at4,<- hL.call] at g;exact g m hon
theorem Z0h {a:Int}(hL:S.az (S.aa true op F size) (5+S.nMid.length) a){m:S.Mach}(hc:(S.aa true op F size).In m.mem)(ha:0<=a):m.mv (a+2)=0:=by
 have x4:(S.aa true op F size).xs[5+S.nMid.length+4]?=some (S.bW 0):=Zhn op 4;have hw:(S.wordsAt (S.aa true op F size).xs (S.aa true op F size).F 0 (5+S.nMid.length+4))[0]?=some 0:=by
  unfold S.wordsAt;rw [x4]
  show (S.wordsOf (S.bW 0) _ _ _)[0]?=some 0
  rw [Zvc];rfl
 have:=hc (5+S.nMid.length+4) (by show 5<=_;omega) (by show _<(S.joined (S.nObjs op)).length;rw [Zni];omega) 0 0 hw;rw [hL.at4,Ybe] at this;exact this
theorem Z2t {a:Int}(hL:S.az (S.aa true op F size) (5+S.nMid.length) a)(hs:a+4<size){m:S.Mach}(hm:S.de op F size m){d:Int}{R:S.BO->Nat->Prop}(hd:d<=256)(hr:S.af (S.aa true op F size) (S.kRt op) true (S.viewOf m) d (a+2) R)(hk:∀ o k,R o k->k<=3000000)(hl:∀ t st k,¬ R (.left t st) k)(h0:∀ c st k,R (.halt c st) k->c≠0) :
 ((m.steps_ 5000000).state=1) /\
 ((∃ st' k,R (.ret st') k/\S.b8 (S.aa true op F size) (m.steps_ 5000000) st'/\(m.steps_ 5000000).place=a+3/\(m.steps_ 5000000).rd 28=1056)\/(∃ st' k c,R (.halt c st') k/\(m.steps_ 5000000).code=c/\(m.steps_ 5000000).place≠a+3)):=by
 obtain ⟨k1,hk1,hon1⟩:=Z7u hI hL hm;have ha:=hL.a0;obtain ⟨o,k,hRo,hdone⟩:=hr ((S.viewOf m).set 31 (a+2)) 1056 ((S.Mt.refl_ (S.viewOf m)).hid (by decide) _) (by rw [Zh _ _ (by decide)];exact hm.r28) (Zj _ _ _) (by omega) (by show a+2<size;omega) (Int.le_refl _) (by show 1056+d<=1312;omega);have hk3:=hk o k hRo;have x6:(S.aa true op F size).xs[5+S.nMid.length+6]?=some S.bHalt:=Zhn op 6;have b0:(S.aa true op F size).i0<=5+S.nMid.length+6:=by show 5<=_;omega
 have b1:5+S.nMid.length+6<(S.aa true op F size).i1:=by show _<(S.joined (S.nObjs op)).length;rw [Zni];omega
 have more:∀ (j:Nat),j<=5000000->(m.steps_ j).state≠0->m.steps_ 5000000=m.steps_ j:=fun j hj hst=>by
  obtain ⟨x,hx⟩:∃ x,5000000=j+x:=⟨5000000-j,by omega⟩
  rw [hx,Za6,Zio hst]
 cases o with
 | ret st' =>
  obtain ⟨V',g,hmt,h28,_⟩:=hdone;obtain ⟨j,hj,hon⟩:=g _ hon1;have hz:V'.mem (a+2)=0:=by
   rw [<- hon.mem (a+2) (by omega) (by show a+2<size;omega)];exact Z0h hI hL hon.code (by omega)
  have hb:S.backTo true V' (a+2)=a+3:=by
   have h2:=hI.size2;have h3:(S.aa true op F size).size=size:=rfl;unfold S.backTo;rw [if_pos rfl,hz];unfold S.u32m;omega
  rw [hb,<- hL.at6] at hon;obtain ⟨hoff,hpl⟩:=Z1n hI b0 b1 x6 hon;have e:m.steps_ 5000000=((m.steps_ k1).steps_ j).steps_ 1:=by
   rw [<- Za6,<- Za6];refine more _ (by omega) ?_;rw [Za6,Za6,hoff.end_]
   decide
  rw [e];exact ⟨hoff.end_,.inl ⟨st',k,hRo,Zyg hoff hmt,by rw [hpl];exact hL.at6,by rw [hoff.reg 28 (by decide) (by decide) (by decide)];exact h28⟩⟩
 | halt c st' =>
  obtain ⟨V',g,hmt⟩:=hdone;obtain ⟨j,hj,hoff⟩:=g _ hon1;have e:m.steps_ 5000000=(m.steps_ k1).steps_ j:=by
   rw [<- Za6];refine more _ (by omega) ?_;rw [Za6,hoff.end_]
   decide
  rw [e];refine ⟨hoff.end_,.inr ⟨st',k,c,hRo,hoff.codeIs,fun hp=>?_⟩⟩;refine h0 c st' k hRo ?_;exact Zzc hI hon1.run hoff b0 b1 x6 (hp.trans hL.at6.symm)
 | left t st=>exact absurd hRo (hl t st k)
end
end
section
open Go.RowKit
namespace S
inductive AV where
 | int (k:IntKind) (n:Int)
 | bool (b:Bool)
 | str (s:ByteArray)
 | fn (f:FuncId)
 | row (n:Nat) (cs:List AV)
 | agg (cs:List AV)
 | tup (vs:List AV)
 | box (id off:Nat)
 | ptr (cs:List AV) (off:Nat)
 | any
def AV.cell:AV->Bool
 | .int _ _ | .bool _ | .str _ | .fn _ | .row _ _=>true
 | _=>false
def AV.cells:AV->Option (List AV)
 | .agg cs=>some cs
 | .int k n=>some [.int k n]
 | .bool b=>some [.bool b]
 | .str s=>some [.str s]
 | .fn f=>some [.fn f]
 | .row n cs=>some [.row n cs]
 | _=>none
def AV.free:AV->Bool
 | .box _ _ | .ptr _ _ | .any=>false
 | _=>true
abbrev Tail:=Option (TypeId×Nat)
abbrev Ent:=TypeId×List AV
structure St where
 sl:Nat->Option AV
 tl:Nat->Tail
 hp:Nat->Option Ent
inductive Rd (α:Type) where
 | done (a:α)
 | fail
 | sl (t:Nat) (k:Option AV->Rd α)
 | tl (t:Nat) (k:Tail->Rd α)
 | hp (i:Nat) (k:Option Ent->Rd α)
namespace Rd
def bind {α β:Type}:Rd α->(α->Rd β)->Rd β
 | .done a,f=>f a
 | .fail,_=>.fail
 | .sl t k,f=>.sl t fun x=>(k x).bind f
 | .tl t k,f=>.tl t fun x=>(k x).bind f
 | .hp t k,f=>.hp t fun x=>(k x).bind f
def run {α:Type}:Rd α->St->Option (α×List Nat)
 | .done a,_=>some (a,[])
 | .fail,_=>none
 | .sl t k,s=>match (k (s.sl t)).run s with | some (a,l)=>some (a,(3*t)::l) | none=>none
 | .tl t k,s=>match (k (s.tl t)).run s with | some (a,l)=>some (a,(3*t+1)::l) | none=>none
 | .hp t k,s=>match (k (s.hp t)).run s with | some (a,l)=>some (a,(3*t+2)::l) | none=>none
def ofOpt {α:Type}:Option α->Rd α
 | some a=>.done a
 | none=>.fail
end Rd
structure Eff where
 dst:Option (Nat×AV×Tail)
 drop:Option Nat
 ent:Option (Nat×Ent)
def Eff.apply (e:Eff)(s:St):St where
 sl:=fun t=>match e.dst with
  | some (d,v,_)=>if t=d then some v else s.sl t
  | none=>s.sl t
 tl:=fun t=>match e.dst with
  | some (d,_,z)=>if t=d then z else if e.drop=some t then none else s.tl t
  | none=>if e.drop=some t then none else s.tl t
 hp:=fun i=>match e.ent with
  | some (k,x)=>if i=k then some x else s.hp i
  | none=>s.hp i
def Eff.writes (e:Eff):List Nat :=
 (match e.dst with | some (d,_,_)=>[3*d,3*d+1] | none=>[])++(match e.drop with | some t=>[3*t+1] | none=>[])++(match e.ent with | some (k,_)=>[3*k+2] | none=>[])
def same (r:Nat)(s s':St):Prop:=if r%3=0 then s.sl (r/3)=s'.sl (r/3) else if r%3=1 then s.tl (r/3)=s'.tl (r/3) else s.hp (r/3)=s'.hp (r/3)
end S
open S in
theorem Zrj (t:Nat)(s s':St):same (3*t) s s'↔s.sl t=s'.sl t:=by
 unfold same;rw [if_pos (by omega),show 3*t/3=t by omega]
open S in
theorem Zrk (t:Nat)(s s':St):same (3*t+1) s s'↔s.tl t=s'.tl t:=by
 unfold same;rw [if_neg (by omega),if_pos (by omega),show (3*t+1)/3=t by omega]
open S in
theorem Zrl (t:Nat)(s s':St):same (3*t+2) s s'↔s.hp t=s'.hp t:=by
 unfold same;rw [if_neg (by omega),if_neg (by omega),show (3*t+2)/3=t by omega]
theorem S.same.refl (r:Nat)(s:S.St):S.same r s s:=by
 unfold S.same
 split
 ·rfl
 ·split <;> rfl
theorem S.same.trans {r:Nat}{a b c:S.St}(h:S.same r a b)(k:S.same r b c):S.same r a c:=by
 unfold S.same at *
 split at h
 ·rw [if_pos (by assumption)] at k ⊢;exact h.trans k
 ·rw [if_neg (by assumption)] at k ⊢
  split at h
  ·rw [if_pos (by assumption)] at k ⊢;exact h.trans k
  ·rw [if_neg (by assumption)] at k ⊢;exact h.trans k
theorem S.same.symm {r:Nat}{a b:S.St}(h:S.same r a b):S.same r b a:=by
 unfold S.same at *
 split at h
 ·rw [if_pos (by assumption)];exact h.symm
 ·rw [if_neg (by assumption)]
  split at h
  ·rw [if_pos (by assumption)];exact h.symm
  ·rw [if_neg (by assumption)];exact h.symm
theorem Z0i {s s':S.St}(h:∀ r,S.same r s s'):s=s':=by
 obtain ⟨a,b,c⟩:=s;obtain ⟨a',b',c'⟩:=s';have h1:a=a':=funext fun t=>(Zrj t _ _).1 (h _)
 have h2:b=b':=funext fun t=>(Zrk t _ _).1 (h _)
 have h3:c=c':=funext fun t=>(Zrl t _ _).1 (h _)
 rw [h1,h2,h3]
theorem Zjn (r:Nat):(∃ t,r=3*t)\/(∃ t,r=3*t+1)\/∃ t,r=3*t+2:=by
 by_cases h:r%3=0
 ·exact .inl ⟨r/3,by omega⟩
 ·by_cases h1:r%3=1
  ·exact .inr (.inl ⟨r/3,by omega⟩)
  ·exact .inr (.inr ⟨r/3,by omega⟩)
open S in
theorem Zdh {e:Eff}{r:Nat}(h:r ∉ e.writes)(s:St):same r (e.apply s) s:=by
 obtain ⟨dst,drop,ent⟩:=e;unfold Eff.writes at h;simp only [List.mem_append,not_or] at h;obtain ⟨⟨h1,h2⟩,h3⟩:=h;rcases Zjn r with ⟨t,rfl⟩ | ⟨t,rfl⟩ | ⟨t,rfl⟩
 ·rw [Zrj]
  unfold Eff.apply;rcases dst with _ | ⟨d,v,z⟩
  ·rfl
  ·simp only [Yz,Yaq,or_false,not_or] at h1 ⊢
   rw [if_neg (by omega)]
 ·rw [Zrk]
  unfold Eff.apply;have hd:drop≠some t:=by
   rcases drop with _ | d
   ·simp
   ·simp only [Yz,Yaq,or_false] at h2
    intro e
    cases e
    exact h2 rfl
  rcases dst with _ | ⟨d,v,z⟩
  ·simp only;rw [if_neg hd]
  ·simp only [Yz,Yaq,or_false,not_or] at h1 ⊢
   rw [if_neg (by omega),if_neg hd]
 ·rw [Zrl]
  unfold Eff.apply;rcases ent with _ | ⟨k,x⟩
  ·rfl
  ·simp only [Yz,Yaq,or_false] at h3 ⊢
   rw [if_neg (by omega)]
open S in
theorem Zou {e:Eff}{r:Nat}(h:r∈e.writes)(s s':St):same r (e.apply s) (e.apply s'):=by
 obtain ⟨dst,drop,ent⟩:=e;unfold Eff.writes at h;rcases Zjn r with ⟨t,rfl⟩ | ⟨t,rfl⟩ | ⟨t,rfl⟩
 ·rw [Zrj]
  unfold Eff.apply;rcases dst with _ | ⟨d,v,z⟩
  ·exfalso
   rcases drop with _ | d <;> rcases ent with _ | ⟨k,x⟩ <;> simp at h <;> omega
  ·by_cases c:t=d
   ·simp only [c,if_true]
   ·exfalso
    rcases drop with _ | d <;> rcases ent with _ | ⟨k,x⟩ <;> simp at h <;> omega
 ·rw [Zrk]
  unfold Eff.apply;rcases dst with _ | ⟨d,v,z⟩
  ·by_cases c:drop=some t
   ·simp only [c,if_true]
   ·exfalso
    rcases drop with _ | d <;> rcases ent with _ | ⟨k,x⟩ <;> simp at h c <;> omega
  ·by_cases c0:t=d
   ·simp only [c0,if_true]
   ·by_cases c:drop=some t
    ·simp only [c,if_true,if_neg c0]
    ·exfalso
     rcases drop with _ | d <;> rcases ent with _ | ⟨k,x⟩ <;> simp at h c <;> omega
 ·rw [Zrl]
  unfold Eff.apply;rcases ent with _ | ⟨k,x⟩
  ·exfalso
   rcases drop with _ | d <;> rcases dst with _ | ⟨d,v,z⟩ <;> simp at h <;> omega
  ·by_cases c:t=k
   ·simp only [c,if_true]
   ·exfalso
    rcases drop with _ | d <;> rcases dst with _ | ⟨d,v,z⟩ <;> simp at h <;> omega
theorem Zs0 {e:S.Eff}{r:Nat}{s s':S.St}(h:S.same r s s'):S.same r (e.apply s) (e.apply s'):=by
 by_cases c:r∈e.writes
 ·exact Zou c s s'
 ·exact ((Zdh c s).trans h).trans (Zdh c s').symm
theorem Zie {α:Type}:∀ (m:S.Rd α) {s s':S.St} {x:α} {l:List Nat},m.run s=some (x,l)->(∀ r∈l,S.same r s s')->m.run s'=some (x,l)
 | .done a,s,s',x,l,h,_=>by
  unfold S.Rd.run at h ⊢;exact h
 | .fail,s,s',x,l,h,_=>by simp [S.Rd.run] at h
 | .sl t k,s,s',x,l,h,hs=>by
  unfold S.Rd.run at h ⊢
  cases hk:(k (s.sl t)).run s with
  | none=>rw [hk] at h;simp at h
  | some p =>
   obtain ⟨a,l'⟩:=p;rw [hk] at h;simp only [Option.some.injEq,Prod.mk.injEq] at h;obtain ⟨rfl,rfl⟩:=h;have e:s.sl t=s'.sl t:=(Zrj t s s').1 (hs _ Yt);have:=Zie (k (s.sl t)) hk (s':=s') fun r hr=>hs r (Yy _ hr)
   rw [e] at this;rw [this]
 | .tl t k,s,s',x,l,h,hs=>by
  unfold S.Rd.run at h ⊢
  cases hk:(k (s.tl t)).run s with
  | none=>rw [hk] at h;simp at h
  | some p =>
   obtain ⟨a,l'⟩:=p;rw [hk] at h;simp only [Option.some.injEq,Prod.mk.injEq] at h;obtain ⟨rfl,rfl⟩:=h;have e:s.tl t=s'.tl t:=(Zrk t s s').1 (hs _ Yt);have:=Zie (k (s.tl t)) hk (s':=s') fun r hr=>hs r (Yy _ hr)
   rw [e] at this;rw [this]
 | .hp t k,s,s',x,l,h,hs=>by
  unfold S.Rd.run at h ⊢
  cases hk:(k (s.hp t)).run s with
  | none=>rw [hk] at h;simp at h
  | some p =>
   obtain ⟨a,l'⟩:=p;rw [hk] at h;simp only [Option.some.injEq,Prod.mk.injEq] at h;obtain ⟨rfl,rfl⟩:=h;have e:s.hp t=s'.hp t:=(Zrl t s s').1 (hs _ Yt);have:=Zie (k (s.hp t)) hk (s':=s') fun r hr=>hs r (Yy _ hr)
   rw [e] at this;rw [this]
theorem Zl {α β:Type}:∀ (m:S.Rd α) (f:α->S.Rd β) {s:S.St} {y:β} {l:List Nat},(m.bind f).run s=some (y,l)->∃ x l1 l2,m.run s=some (x,l1)/\(f x).run s=some (y,l2)
 | .done a,f,s,y,l,h=>⟨a,[],l,rfl,h⟩
 | .fail,f,s,y,l,h=>by simp [S.Rd.bind,S.Rd.run] at h
 | .sl t k,f,s,y,l,h=>by
  unfold S.Rd.bind S.Rd.run at h
  cases hk:((k (s.sl t)).bind f).run s with
  | none=>rw [hk] at h;simp at h
  | some p =>
   obtain ⟨a,l'⟩:=p;rw [hk] at h;simp only [Option.some.injEq,Prod.mk.injEq] at h;obtain ⟨rfl,rfl⟩:=h;obtain ⟨x,l1,l2,h1,h2⟩:=Zl (k (s.sl t)) f hk;exact ⟨x,_,l2,by rw [S.Rd.run,h1],h2⟩
 | .tl t k,f,s,y,l,h=>by
  unfold S.Rd.bind S.Rd.run at h
  cases hk:((k (s.tl t)).bind f).run s with
  | none=>rw [hk] at h;simp at h
  | some p =>
   obtain ⟨a,l'⟩:=p;rw [hk] at h;simp only [Option.some.injEq,Prod.mk.injEq] at h;obtain ⟨rfl,rfl⟩:=h;obtain ⟨x,l1,l2,h1,h2⟩:=Zl (k (s.tl t)) f hk;exact ⟨x,_,l2,by rw [S.Rd.run,h1],h2⟩
 | .hp t k,f,s,y,l,h=>by
  unfold S.Rd.bind S.Rd.run at h
  cases hk:((k (s.hp t)).bind f).run s with
  | none=>rw [hk] at h;simp at h
  | some p =>
   obtain ⟨a,l'⟩:=p;rw [hk] at h;simp only [Option.some.injEq,Prod.mk.injEq] at h;obtain ⟨rfl,rfl⟩:=h;obtain ⟨x,l1,l2,h1,h2⟩:=Zl (k (s.hp t)) f hk;exact ⟨x,_,l2,by rw [S.Rd.run,h1],h2⟩
theorem Zah {α:Type}{o:Option α}{s:S.St}{y:α}{l:List Nat}(h:(S.Rd.ofOpt o).run s=some (y,l)):o=some y:=by
 cases o with
 | none=>simp [S.Rd.ofOpt,S.Rd.run] at h
 | some a=>simp [S.Rd.ofOpt,S.Rd.run] at h;rw [h.1]
namespace S
def stL (L:Nat->Bool):List (Eff×List Nat)->Nat->St->St
 | [],_,s=>s
 | (e,_)::r,i,s=>stL L r (i+1) (if L i=true then e.apply s else s)
end S
theorem Zgp {L L':Nat->Bool}{r:Nat}:∀ (es:List (S.Eff×List Nat)) (i:Nat) (s s':S.St),S.same r s s'->(∀ k e l,es[k]?=some (e,l)->r∈e.writes->L (i+k)=L' (i+k))->S.same r (S.stL L es i s) (S.stL L' es i s')
 | [],i,s,s',h,_=>h
 | (e,l)::es,i,s,s',h,hw=>by
  unfold S.stL;refine Zgp es (i+1) _ _ ?_ fun k e' l' hk hr=>?_
  ·by_cases c:r∈e.writes
   ·have:=hw 0 e l rfl c
    rw [Ybe] at this;rw [this]
    split
    ·exact Zs0 h
    ·exact h
   ·have h1:S.same r (if L i=true then e.apply s else s) s:=by
     split
     ·exact Zdh c s
     ·exact S.same.refl _ _
    have h2:S.same r (if L' i=true then e.apply s' else s') s':=by
     split
     ·exact Zdh c s'
     ·exact S.same.refl _ _
    exact (h1.trans h).trans h2.symm
  ·have:=hw (k+1) e' l' (by simpa using hk) hr
   rw [show i+1+k=i+(k+1) by omega];exact this
theorem Zrm {L:Nat->Bool}{r:Nat}:∀ (es:List (S.Eff×List Nat)) (i k:Nat) (s s':S.St) (e:S.Eff) (l:List Nat),es[k]?=some (e,l)->r∈e.writes->L (i+k)=true->(∀ j e' l',k<j->es[j]?=some (e',l')->r∈e'.writes->L (i+j)=false)->S.same r (S.stL L es i s) (e.apply s')
 | [],i,k,s,s',e,l,hk,_,_,_=>by simp at hk
 | (e0,l0)::es,i,0,s,s',e,l,hk,hr,hL,hn=>by
  simp at hk;obtain ⟨rfl,rfl⟩:=hk;unfold S.stL;rw [Ybe] at hL;rw [if_pos hL];have key:∀ (es:List (S.Eff×List Nat)) (i:Nat) (s:S.St),(∀ j e' l',es[j]?=some (e',l')->r∈e'.writes->L (i+j)=false)->S.same r (S.stL L es i s) s:=by
   intro es
   induction es with
   | nil=>intro i s _;exact S.same.refl _ _
   | cons p es ih =>
    obtain ⟨e1,l1⟩:=p;intro i s h;unfold S.stL;refine (ih (i+1) _ fun j e' l' hj hr=>?_).trans ?_
    ·have:=h (j+1) e' l' (by simpa using hj) hr
     rw [show i+1+j=i+(j+1) by omega];exact this
    ·split
     ·rename_i c
      refine Zdh (fun hm=>?_) s;have:=h 0 e1 l1 rfl hm;rw [Ybe,c] at this
      cases this
     ·exact S.same.refl _ _
  refine (key es (i+1) _ fun j e' l' hj hr'=>?_).trans (Zou hr _ _);have:=hn (j+1) e' l' (by omega) (by simpa using hj) hr';rw [show i+1+j=i+(j+1) by omega];exact this
 | (e0,l0)::es,i,k+1,s,s',e,l,hk,hr,hL,hn=>by
  unfold S.stL;refine Zrm es (i+1) k _ s' e l (by simpa using hk) hr ?_ fun j e' l' hj hjk hr'=>?_
  ·rw [show i+1+k=i+(k+1) by omega];exact hL
  ·have:=hn (j+1) e' l' (by omega) (by simpa using hjk) hr'
   rw [show i+1+j=i+(j+1) by omega];exact this
namespace S
def befs:List Oper->List Nat->List Nat
 | [],acc=>acc
 | o::r,acc=>befs r (acc++[o.after.toList.foldl (fun m e=>if Yby .any e then m ||| (2^e.on) ||| acc.getD e.on 0 else m) 0])
def meets (a b:List Nat):Bool:=a.any fun x=>b.any fun y=>Nat.beq x y
def apart1 (e:Eff)(rs:List Nat)(i:Nat):List (Eff×List Nat)->List Nat->Bool
 | (e',rs')::r,b::br=>(b.testBit i || (!meets e.writes (rs'++e'.writes) && !meets e'.writes rs)) && apart1 e rs i r br
 | _,_=>true
def apartB:List (Eff×List Nat)->List Nat->Nat->Bool
 | (e,rs)::r,_::br,i=>apart1 e rs i r br && apartB r br (i+1)
 | _,_,_=>true
end S
theorem Zjo {a b:List Nat}(h:S.meets a b=false){x:Nat}(hx:x∈a):x ∉ b:=fun hb=>by
 have h1:S.meets a b=true:=Ybr.2 ⟨x,hx,Ybr.2 ⟨x,hb,by rw [Nat.beq_eq]⟩⟩;rw [h] at h1
 cases h1
theorem Zov {e:S.Eff}{rs:List Nat}{i:Nat}:∀ (es:List (S.Eff×List Nat)) (bs:List Nat),S.apart1 e rs i es bs=true->∀ (k:Nat) (e':S.Eff) (rs':List Nat) (b:Nat),es[k]?=some (e',rs')->bs[k]?=some b->b.testBit i=true\/(S.meets e.writes (rs'++e'.writes)=false/\S.meets e'.writes rs=false)
 | [],_,_,k,e',rs',b,hk,_=>by simp at hk
 | _::_,[],_,k,e',rs',b,_,hb=>by simp at hb
 | (e1,r1)::es,b1::bs,h,k,e',rs',b,hk,hb=>by
  simp only [S.apart1,Yr,Yb0,Bool.not_eq_true'] at h
  cases k with
  | zero =>
   simp at hk hb;obtain ⟨rfl,rfl⟩:=hk;subst hb;exact h.1
  | succ k=>exact Zov es bs h.2 k e' rs' b (by simpa using hk) (by simpa using hb)
theorem Zjp:∀ (es:List (S.Eff×List Nat)) (bs:List Nat) (i:Nat),S.apartB es bs i=true->∀ (j k:Nat) (e:S.Eff) (rs:List Nat) (e':S.Eff) (rs':List Nat) (b:Nat),j<k->es[j]?=some (e,rs)->es[k]?=some (e',rs')->bs[k]?=some b->b.testBit (i+j)=true\/(S.meets e.writes (rs'++e'.writes)=false/\S.meets e'.writes rs=false)
 | [],_,_,_,j,k,e,rs,e',rs',b,_,hj,_,_=>by simp at hj
 | _::_,[],_,_,j,k,e,rs,e',rs',b,_,_,_,hb=>by simp at hb
 | (e1,r1)::es,b1::bs,i,h,j,k,e,rs,e',rs',b,hjk,hj,hk,hb=>by
  simp only [S.apartB,Yr] at h;obtain ⟨k,rfl⟩:∃ k',k=k'+1:=⟨k-1,by omega⟩
  cases j with
  | zero =>
   simp at hj;obtain ⟨rfl,rfl⟩:=hj;rw [Ybe];exact Zov es bs h.1 k e' rs' b (by simpa using hk) (by simpa using hb)
  | succ j =>
   rw [show i+(j+1)=i+1+j by omega];exact Zjp es bs (i+1) h.2 j k e rs e' rs' b (by omega) (by simpa using hj) (by simpa using hk) (by simpa using hb)
theorem Zjq:∀ (ops:List Oper) (acc:List Nat),(S.befs ops acc).length=acc.length+ops.length
 | [],acc=>rfl
 | o::r,acc=>by rw [S.befs,Zjq r,Yd,Yi,Yi,List.length_nil];omega
theorem Zjr {ops:Array Oper}{C:Nat->Nat->Prop}:∀ (pre:List Oper) (rest:List Oper) (acc:List Nat),ops.toList=pre++rest->acc.length=pre.length ->
 (∀ i b,acc[i]?=some b->∀ j,b.testBit j=true->C i j) ->
 (∀ i j,Ybp .any ops i j=true->C i j)->(∀ i j k,Ybp .any ops i j=true->C j k->C i k)->∀ i b,(S.befs rest acc)[i]?=some b->∀ j,b.testBit j=true->C i j
 | pre,[],acc,_,_,h,_,_=>h
 | pre,o::r,acc,e,hl,h,h1,h2=>by
  rw [S.befs];refine Zjr (pre++[o]) r _ (by rw [e];simp) (by simp [hl]) (fun i b hi j hj=>?_) h1 h2;by_cases c:i<acc.length
  ·rw [Yk c] at hi
   exact h i b hi j hj
  ·rw [Yn (by omega)] at hi
   have hi0:i-acc.length=0:=by
    have:=(Yg.1 hi).1;simp at this;omega
   rw [hi0,List.getElem?_cons_zero] at hi;have hi:=Option.some.inj hi;have hio:ops[i]?=some o:=by
    rw [<- Array.getElem?_toList,e,Yn (by omega)];have:i-pre.length=0:=by omega
    rw [this];rfl
   have key:∀ (l:List Edge) (m:Nat),(∀ e'∈l,Yby .any e'=true->Ybp .any ops i e'.on=true)->(∀ j,m.testBit j=true->C i j) ->
    ∀ j,(l.foldl (fun m e=>if Yby .any e then m ||| (2^e.on) ||| acc.getD e.on 0 else m) m).testBit j=true->C i j:=by
    intro l
    induction l with
    | nil=>intro m _ hm;exact hm
    | cons e' l ih =>
     intro m hl hm;rw [List.foldl_cons];refine ih _ (fun x hx=>hl x (Yy _ hx)) fun j hj=>?_
     split at hj
     ·rename_i hb
      have hw:=hl e' Yt hb;rw [Nat.testBit_or,Nat.testBit_or,Yb0,Yb0] at hj;rcases hj with (hj | hj) | hj
      ·exact hm j hj
      ·rw [Nat.testBit_two_pow] at hj
       have:e'.on=j:=by simpa using hj
       rw [<- this];exact h1 i e'.on hw
      ·rw [List.getD_eq_getElem?_getD] at hj
       cases ha:acc[e'.on]? with
       | none=>rw [ha] at hj;simp at hj
       | some b' =>
        rw [ha] at hj;exact h2 i e'.on j hw (h e'.on b' ha j (by simpa using hj))
     ·exact hm j hj
   subst hi;refine key o.after.toList 0 (fun e' he hb=>?_) (fun j hj=>by simp at hj) j hj;unfold Ybp;rw [hio];simp only
   first | exact Ybr.2 ⟨e',he,by simp [hb]⟩ | (simp only [Array.any_eq_true'];exact ⟨e',by simpa using he,by simp [hb]⟩)
theorem Zzf {es:List (S.Eff×List Nat)}{bs:List Nat}(hA:S.apartB es bs 0=true)(hl:bs.length=es.length){L:Nat->Bool}(hcl:∀ k b,bs[k]?=some b->L k=true->∀ j,b.testBit j=true->L j=true)
 {i:Nat} {e:S.Eff} {rs:List Nat} (hi:es[i]?=some (e,rs)) (hun:L i=false) (hb:∀ b,bs[i]?=some b->∀ j,b.testBit j=true->L j=true) (s0:S.St) :
 (∀ r∈rs,S.same r (S.stL (fun k=>decide (k<i)) es 0 s0) (S.stL L es 0 s0))/\S.stL (fun k=>if k=i then true else L k) es 0 s0=e.apply (S.stL L es 0 s0):=by
 have bits:∀ k,k<es.length->∃ b,bs[k]?=some b:=fun k hk=>⟨bs[k],List.getElem?_eq_getElem (by omega)⟩
 have hlt:∀ {k:Nat} {x:S.Eff×List Nat},es[k]?=some x->k<es.length:=fun h=>(Yg.1 h).1
 have hbehind:∀ k e' l',i<k->es[k]?=some (e',l')->L k=true->S.meets e.writes (l'++e'.writes)=false/\S.meets e'.writes rs=false:=fun k e' l' hik hk hL=>by
  obtain ⟨b,hbk⟩:=bits k (hlt hk);rcases Zjp es bs 0 hA i k e rs e' l' b hik hi hk hbk with h | h
  ·rw [Yaa] at h
   have:=hcl k b hbk hL i h;rw [hun] at this
   cases this
  ·exact h
 refine ⟨fun r hr=>?_,Z0i fun r=>?_⟩
 ·refine Zgp es 0 s0 s0 (S.same.refl _ _) fun k e' l' hk hw=>?_
  rw [Yaa];rcases Nat.lt_trichotomy k i with h | h | h
  ·rw [decide_eq_true h]
   obtain ⟨b,hbi⟩:=bits i (hlt hi);rcases Zjp es bs 0 hA k i e' l' e rs b h hk hi hbi with h1 | h1
   ·rw [Yaa] at h1
    exact (hb b hbi k h1).symm
   ·exact absurd (List.mem_append_left _ hr) (Zjo h1.1 hw)
  ·subst h
   rw [hun];exact decide_eq_false (Nat.lt_irrefl _)
  ·rw [decide_eq_false (by omega)]
   cases hL:L k with
   | false=>rfl
   | true=>exact absurd hr (Zjo (hbehind k e' l' h hk hL).2 hw)
 ·by_cases c:r∈e.writes
  ·refine Zrm es 0 i s0 (S.stL L es 0 s0) e rs hi c (by rw [Yaa,if_pos rfl]) fun j e' l' hj hjk hw=>?_
   rw [Yaa,if_neg (by omega)]
   cases hL:L j with
   | false=>rfl
   | true=>exact absurd (List.mem_append_right _ hw) (Zjo (hbehind j e' l' hj hjk hL).1 c)
  ·refine (Zgp es 0 s0 s0 (S.same.refl _ _) fun k e' l' hk hw=>?_).trans (Zdh c _).symm
   rw [Yaa]
   split
   ·rename_i h
    subst h;rw [hi] at hk
    cases hk
    exact absurd hw c
   ·rfl
end
end Go.Proofs.YtfhiobkkdcdmiaaGreatDoor
