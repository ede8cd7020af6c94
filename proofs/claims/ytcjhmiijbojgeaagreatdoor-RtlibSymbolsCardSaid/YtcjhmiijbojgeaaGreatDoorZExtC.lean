/- Parts. -/
import Derived.Test.YtcjhmiijbojgeaaGreatDoorZQi
import Derived.Test.YtcjhmiijbojgeaaGreatDoorZBAnL
import Derived.KernelRfl
set_option linter.all false
open List renaming getElem?_eq_getElem->Ye,getD_eq_getElem?_getD->Yh,length_cons->Yk,getElem?_append_left->Yn,getElem?_append_right->Yo,length_map->Y8,nil_append->Yae,getElem?_map->Yaf,all_eq_true->Ya2,getElem?_cons_succ->Ybc,getElem?_set_ne->Ybd,any_eq_true->Ybl,map_cons->Ybr,range->Yb7,mem_range->Ycr
open Bool renaming and_eq_true->Yq,or_eq_true->Ybt
open Nat renaming add_sub_cancel_left->Yac,lt_of_not_le->Ybv
open Go.Region renaming ready->Yay,waitsFor->Ybf,binds->Ybn,Mode->Yby,waitsFor_spec->Yb6,noSelect->Yck
namespace Go.Proofs.YtcjhmiijbojgeaaGreatDoor
open S Go.RowKit
namespace S
def kIs:ByteArray:=⟨#[105,115]⟩
def kIsInt:ByteArray:=⟨#[105,115,105,110,116]⟩
def kIndex:ByteArray:=⟨#[105,110,100,101,120]⟩
def kAlike:ByteArray:=⟨#[97,108,105,107,101]⟩
def vHd (typ len:Int):Int:=32*len+4*typ+3
def Zcf (op params locals:Int)(l:List BS):BR:=⟨kRt op,params,locals,true,l⟩
def vIs:BR:=⟨kIs,2,2,false,
 [sWhen (eNot (eQ (eAnd (eL 0) (eC 3)) (eC 1))) [sVal (eC 0)],
  sVal (eQ (eAnd (eM (eAdr (eL 0)) 0) (eC 31)) (eL 1))]⟩
def vIsInt:BR:=⟨kIsInt,1,1,false,
 [sWhen (eNot (eAnd (eL 0) (eC 3))) [sVal (eC 1)],
  sVal (eF kIs [eL 0,eC (vHd 7 0)])]⟩
def vIndex:BR:=⟨kIndex,1,1,false,
 [sWhen (eAnd (eL 0) (eC 3)) [sVal (eC (-1))],
  sVal (eB 12 (eL 0) (eC 2))]⟩
def vObject (v:BE)(typ:Int):BS:=sWhen (eNot (eF kIs [v,eC (vHd typ 0)])) [sHlt (eC 2)]
def vInteger (v:BE):BS:=sWhen (eNot (eF kIsInt [v])) [sHlt (eC 2)]
def Zt0 (v:BE):BE:=eQ (eAnd v (eC 15)) (eC 2)
def Z36 (v:BE):BS:=sWhen (eNot (Zt0 v)) [sHlt (eC 2)]
def vWithin (v below:BE):BS:=sWhen (eNot (eLt (eF kIndex [v]) below)) [sHlt (eC 3)]
def Zpz (e:BE):BS:=sIf e [sVal (eC 22)] [sVal (eC 6)]
def Zt1:BS:=sVal (eC 70)
def vLen (v:BE):BE:=eShr (eM (eAdr v) 0) 5
def vRoom (n:Nat)(words:BE):List BS :=
 (Yb7 n).map (λ i:Nat=>sKeep (16+i) (eL i))++[sKeep 8 (eC n),sKeep 6 eK,sDo (eF kReserve [words])] ++
  (Yb7 n).map (λ i:Nat=>sAs i (eW (16+i)))++[sKeep 8 (eC 0),sKeep 6 (eC 0)]
def vHeap:BE:=eR 26
def vTook (n:BE):BS:=sSet 26 (eAdd vHeap n)
def Z0b (typ:Int)(v:BE):List BS:=if typ=4 then [Z36 v] else if typ=6 then [vInteger v] else []
def Zt2 (typ:Int)(v:BE):List BS:=if typ=6 then [vWithin v (eC 256)] else []
def vMakes (op typ:Int):BR:=Zcf op 2 3
 ([vInteger (eL 0)]++Z0b typ (eL 1)++[vWithin (eL 0) (eC 1048577)]++Zt2 typ (eL 1)++vRoom 2 (eAdd (eShr (eL 0) 2) (eC 1)) ++
 [sAs 0 (eShr (eL 0) 2),
  sPut vHeap 0 (eB 8 (eShl (eL 0) 5) (eC (vHd typ 0))),
  sAs 2 (eC 0),
  sWh (eLt (eL 2) (eL 0)) [sAs 2 (eAdd (eL 2) (eC 1)),sPut (eAdd vHeap (eL 2)) 0 (eL 1)],
  vTook (eAdd (eL 0) (eC 1)),
  sVal (eRef (eSub vHeap (eAdd (eL 0) (eC 1))))])
def Zxz (op typ:Int):BR:=Zcf op 1 1 [vObject (eL 0) typ,sVal (eShl (vLen (eL 0)) 2)]
def Z0c (v i:BE):BE:=eAdd (eAdr v) (eShr i 2)
def Z60 (op typ:Int):BR:=Zcf op 2 2 [vObject (eL 0) typ,vInteger (eL 1),vWithin (eL 1) (vLen (eL 0)),sVal (eM (Z0c (eL 0) (eL 1)) 1)]
def Z61 (op typ:Int):BR:=Zcf op 3 3
 ([vObject (eL 0) typ,vInteger (eL 1)]++Z0b typ (eL 2)++[vWithin (eL 1) (vLen (eL 0))]++Zt2 typ (eL 2)++[sPut (Z0c (eL 0) (eL 1)) 1 (eL 2),Zt1])
def Z37:List BR :=
 [Zcf 2 2 2 (vRoom 2 (eC 3)++[sVal (eF kCons [eL 0,eL 1])]),
  Zcf 3 1 1 [vObject (eL 0) 0,sVal (eM (eAdr (eL 0)) 1)],
  Zcf 4 1 1 [vObject (eL 0) 0,sVal (eM (eAdr (eL 0)) 2)],
  Zcf 5 2 2 [vObject (eL 0) 0,sPut (eAdr (eL 0)) 1 (eL 1),Zt1],
  Zcf 6 2 2 [vObject (eL 0) 0,sPut (eAdr (eL 0)) 2 (eL 1),Zt1]]
def Zt3 (v:BE)(n i:Int):List BS :=
 [sAs n (vLen v),sAs i (eC 0),
  sWh (eNot (eLt (eL n) (eL i))) [sPut (eAdd vHeap (eL i)) 0 (eM (eAdd (eAdr v) (eL i)) 0),sAs i (eAdd (eL i) (eC 1))],
  vTook (eL i)]
def Z62:BR:=Zcf 24 1 3
 ([vObject (eL 0) 5,sAs 0 (eM (eAdr (eL 0)) 1)]++vRoom 1 (eAdd (vLen (eL 0)) (eC 1))++Zt3 (eL 0) 1 2++[sVal (eRef (eSub vHeap (eL 2)))])
def vAlike:BR:=⟨kAlike,2,3,false,
 [sAs 0 (eAdr (eL 0)),sAs 1 (eAdr (eL 1)),sAs 2 (eShr (eM (eL 0) 0) 5),
  sWhen (eNot (eQ (eM (eL 0) 0) (eM (eL 1) 0))) [sVal (eC 0)],
  sWh (eL 2)
   [sWhen (eNot (eQ (eM (eAdd (eL 0) (eL 2)) 0) (eM (eAdd (eL 1) (eL 2)) 0))) [sVal (eC 0)],
    sAs 2 (eSub (eL 2) (eC 1))],
  sVal (eC 1)]⟩
def vFound:BE:=eM (eAdr (eL 1)) 1
def vIntern:BR:=Zcf 25 1 4
 ([vObject (eL 0) 4,sAs 1 (eW 5),
  sWh (eNot (eQ (eL 1) (eC 38)))
   [sWhen (eF kAlike [eL 0,eM (eAdr vFound) 1]) [sVal vFound],
    sAs 1 (eM (eAdr (eL 1)) 2)]] ++
  vRoom 1 (eAdd (vLen (eL 0)) (eC 6))++Zt3 (eL 0) 2 3 ++
  [sAs 0 (eRef (eSub vHeap (eL 3))),
   sPut vHeap 0 (eC (vHd 5 1)),
   sPut vHeap 1 (eL 0),
   sAs 0 (eRef vHeap),
   vTook (eC 2),
   sKeep 5 (eF kCons [eL 0,eW 5]),
   sVal (eL 0)])
def Z38:List BR :=
 [Zcf 16 1 1 [Z36 (eL 0),sVal (eShl (eShr (eL 0) 4) 2)],
  Zcf 17 1 1 [vInteger (eL 0),vWithin (eL 0) (eC 1114112),
   sWhen (eLt (eSub (eF kIndex [eL 0]) (eC 55296)) (eC 2048)) [sHlt (eC 3)],
   sVal (eB 8 (eShl (eShr (eL 0) 2) 4) (eC 2))]]
def Z39:List BR :=
 [Zcf 37 0 1 [sAs 0 eI,sWhen (eQ (eL 0) (eC (-1))) [sVal (eC 54)],sVal (eShl (eL 0) 2)],
  Zcf 38 1 1 [vInteger (eL 0),vWithin (eL 0) (eC 256),Z86 (eShr (eL 0) 2),Zt1],
  Zcf 39 1 1 [vInteger (eL 0),vWithin (eL 0) (eC 101),sHlt (eShr (eL 0) 2)]]
def Zrd (op typ:Int):BR:=Zcf op 1 1 [Zpz (eF kIs [eL 0,eC (vHd typ 0)])]
def Z4a:List BR :=
 [Zcf 0 2 2 [Zpz (eQ (eL 0) (eL 1))],
  Zcf 7 1 1 [Zpz (eF kIsInt [eL 0])],
  Zcf 15 1 1 [Zpz (Zt0 (eL 0))],
  Zcf 40 0 0 [sVal (eC 54)],
  Zcf 41 0 0 [Zt1],
  Zrd 1 0,Zrd 18 4,Zrd 23 5,Zrd 26 1,Zrd 31 6,Zrd 36 2]
def Z1m (op typ:Int):List BR:=[vMakes op typ,Zxz (op+1) typ,Z60 (op+2) typ,Z61 (op+3) typ]
def rs28:List BR:=[vIs,vIsInt,vIndex,vAlike,Z62,vIntern]++Z37++Z38++Z39++Z4a++Z1m 19 4++Z1m 27 1++Z1m 32 6
def objs28:List Obj:=rs28.map ofR
def oMainV:Obj:=⟨kMain,[bL kF0,bI 36 0 0 0 0]⟩
end S
section
theorem Z4b {env:List Int}(h:(env.length:Int)=3):∃a b c,env=[a,b,c]:=by
 match env,h with
 | [a,b,c],_=>exact⟨a,b,c,rfl⟩
 | [],h=>simp at h
 | [_],h=>simp at h
 | [_,_],h=>simp at h
 | _::_::_::_::_,h=>simp only[Yk] at h;omega
theorem Z1n {env:List Int}(h:(env.length:Int)=1):∃a,env=[a]:=by
 match env,h with
 | [a],_=>exact⟨a,rfl⟩
 | [],h=>simp at h
 | _::_::_,h=>simp only[Yk] at h;omega
section
variable {I:Img}{dep lk:Int}{env:List Int}{st:Vw}
theorem Zgt {e:S.BE}{p:Int}{K:Nat}(h:Yl I dep lk env st e (4*p+1) K):Yl I dep lk env st (S.eAdr e) p (K+3):=by
 refine(Zc9 (by decide) h (Za6 2)).to_ ?_ (by omega);rw[Z6t];omega
end
end
theorem Zf5 (x:List Int)(j:Nat):x.tail.getD j 0=x.getD (j+1) 0:=by
 cases x with
 | nil=>rfl
 | cons d r=>rfl
namespace S
def Top (ds:List Int)(n:Nat):Prop:=n<=ds.length/\(∀j,n<=j->ds.getD j 0=0)/\(n=0\/ds.getD (n-1) 0≠0)
end S
theorem Zt4 {a:List Int}{n i:Nat}(h:i<n):(a.take n).getD i 0=a.getD i 0:=by
 rw[Yh,List.getElem?_take_of_lt h,<- Yh]
theorem Zt5 {a:List Int}(n i:Nat):(a.drop n).getD i 0=a.getD (n+i) 0:=by
 rw[Yh,List.getElem?_drop,<- Yh]
theorem S.Real.mono {I:Img}{name:ByteArray}{b:Bool}{st:Vw}{d:Int}{R a:Int->BO->Nat->Prop}(h:Real I name b st d R)(hm:∀ret o k,R ret o k->a ret o k):Real I name b st d a:=λ V top ret j n e g f m l=>by
 obtain⟨o,k,c,hd⟩:=h V top ret j n e g f m l;exact⟨o,k,hm _ _ _ c,hd⟩
section
def S.di (st:Vw)(m:Int):Vw:={ st with mem:=λ a=>if a=8 then(if 6<m then 8 else m+1) else if a=6 then 0 else if a=16 then st.reg 1 else if a=23 then st.reg 10 else if 17<=a/\a<=22 then st.reg (a-13) else st.mem a }
section
end
end
namespace S
def bSp (n:Int):Item:=⟨8,⟨0,0,0,0,0⟩,bNo,n⟩
def bHalt:Item:=bI 36 0 0 0 0
def hItems (gw sw:List Int):List Item:=bSp 1312::(gw.map bW++(bL kStatic::(sw.map bW++[bL kCode,bL kStub,bHalt,bL kMapped,bW 0,bHalt])))
def tItems:List Item:=[bL kMore,bSp 8,bL kEnd]
def oHead (gw sw:List Int):Obj:=⟨kHead,hItems gw sw⟩
def oTail:Obj:=⟨kTail,tItems⟩
def nodupB:List ByteArray->Bool
 | []=>true
 | x::r=>!(r.any λ y=>decide (x=y)) && nodupB r
def subB (a b:List ByteArray):Bool:=a.all λ s=>b.any λ t=>decide (s=t)
def hTells:List ByteArray:=[kStatic,kCode,kStub,kMapped]
def Z4c:List ByteArray:=[kMore,kEnd]
end S
theorem Zk5:∀{l:List ByteArray},S.nodupB l=true->l.Nodup
 | [],_=>List.nodup_nil
 | x::r,h=>by
  rw[S.nodupB,Yq] at h;refine List.nodup_cons.2 ⟨λ a=>?_,Zk5 h.2⟩;have:(r.any λ y=>decide (x=y))=true:=Ybl.2 ⟨x,a,decide_eq_true rfl⟩;rw[this] at h;exact absurd h.1 (by decide)
theorem Z4d {a b:List ByteArray}(h:S.subB a b=true):∀s∈a,s∈b:=λ s d=>by
 obtain⟨t,c,e⟩:=Ybl.1 (Ya2.1 h s d);rw[of_decide_eq_true e];exact c
theorem Zfg (a b:List S.Obj):joined (a++b)=joined a++joined b:=List.flatMap_append
theorem Zp0 (l:List Int):tells (l.map S.bW)=[]/\names (l.map S.bW)=[]/\bulk (l.map S.bW)=4*l.length/\allChk (l.map S.bW):=by
 induction l with
 | nil=>exact⟨rfl,rfl,rfl,Zjy⟩
 | cons x r ih =>
  obtain⟨h1,d,a,c⟩:=ih;refine⟨?_,?_,?_,Z1 (by simp[chkItem,S.bW]) c⟩
  .rw[Ybr,tells,if_neg (show ¬(S.bW x).kind=2 from(by decide:¬(6:Int)=2)),h1]
  .rw[Ybr,names,if_neg (show ¬named (S.bW x)=true from by simp[named,S.bW]),d]
  .rw[Ybr,bulk,if_neg (show ¬(S.bW x).kind=8 from(by decide:¬(6:Int)=8)),a,Yk];omega
theorem Zgu (gw sw:List Int):tells (S.hItems gw sw)=S.hTells/\names (S.hItems gw sw)=[]/\bulk (S.hItems gw sw)=1312+4*gw.length+4*sw.length+28/\allChk (S.hItems gw sw):=by
 obtain⟨a,f,c,e⟩:=Zp0 gw;obtain⟨s1,h,g,d⟩:=Zp0 sw;unfold S.hItems;refine⟨?_,?_,?_,?_⟩
 .rw[tells,if_neg (by decide),Zax,a,Yae,tells,if_pos (by decide),Zax,s1,Yae]
  rfl
 .rw[names,if_neg (by decide),Zcj,f,Yae,names,if_neg (by decide),Zcj,h,Yae]
  rfl
 .rw[bulk,if_pos (by decide),Zb6,c,bulk,if_neg (by decide),Zb6,g]
  have:bulk [S.bL S.kCode,S.bL S.kStub,S.bHalt,S.bL S.kMapped,S.bW 0,S.bHalt]=24:=by decide
  rw[this]
  show(1312:Int)+_=_
  omega
 .have hh:chkItem S.bHalt=0:=Z33 (Zts (.inr rfl) (by decide))
  exact Z1 (by simp[chkItem,S.bSp]) (Zbo e (Z1 (Zj0 _) (Zbo d (Z1 (Zj0 _) (Z1 (Zj0 _) (Z1 hh (Z1 (Zj0 _) (Z1 (by simp[chkItem,S.bW]) (Zjz hh)))))))))
theorem Zbv (gw sw:List Int):(S.hItems gw sw).length=gw.length+sw.length+8:=by
 unfold S.hItems;simp;omega
section
theorem Zmj:∀{os:List S.Obj} {j:Nat} {o:S.Obj},os[j]?=some o->∃A B,joined os=A++(o.items.map (ownItem o.name)++B)
 | [],j,o,h=>by cases h
 | x::r,0,o,h=>by
  cases h
  exact⟨[],joined r,rfl⟩
 | x::r,j+1,o,h=>by
  obtain⟨A,B,e⟩:=Zmj (os:=r) (j:=j) h;refine⟨itemsOf x++A,B,?_⟩
  show itemsOf x++joined r=_
  rw[e,List.append_assoc]
section
variable {gw sw:List Int}{F:List Int}{size:Int}{b:Bool}
theorem Z0d {k:Nat}(a:k<gw.length):(S.hItems gw sw)[1+k]?=some (S.bW gw[k]):=by
 unfold S.hItems;rw[Nat.add_comm,Ybc,Yn (by rw[Y8];exact a),Yaf,Ye a];rfl
theorem Zp1 {k:Nat}:(S.hItems gw sw)[1+gw.length+k]?=(S.bL S.kStatic::(sw.map S.bW++[S.bL S.kCode,S.bL S.kStub,S.bHalt,S.bL S.kMapped,S.bW 0,S.bHalt]))[k]?:=by
 unfold S.hItems;rw[show 1+gw.length+k=(gw.length+k)+1 from by omega,Ybc,Yo (by rw[Y8];omega),Y8,Yac]
theorem Z0e {k:Nat}(a:k<sw.length):(S.hItems gw sw)[2+gw.length+k]?=some (S.bW sw[k]):=by
 rw[show 2+gw.length+k=1+gw.length+(k+1) from by omega,Zp1,Ybc,Yn (by rw[Y8];exact a),Yaf,Ye a];rfl
theorem Zk6 {k:Nat}:(S.hItems gw sw)[2+gw.length+sw.length+k]?=[S.bL S.kCode,S.bL S.kStub,S.bHalt,S.bL S.kMapped,S.bW 0,S.bHalt][k]?:=by
 rw[show 2+gw.length+sw.length+k=1+gw.length+((sw.length+k)+1) from by omega,Zp1,Ybc,Yo (by rw[Y8];omega),Y8,Yac]
end
end
section
section
variable {I:Img}(hI:I.Ok){i:Nat}(h0:I.i0<=i)(h1:i<I.i1)
include hI h0 h1
theorem Zt6 {V:Vw}{s:ByteArray}{w:Int}(e:I.xs[i]?=some ⟨1,⟨36,0,0,0,0⟩,s,w⟩){m:Mach}(hm:On I m V (I.adr i)):Off I (m.steps_ 1) V (V.reg 0)/\(m.steps_ 1).place=I.adr i:=by
 obtain⟨f,hg,hn⟩:=Zy hI h0 h1 e;have g:=hm.reg 0 (by decide) (by decide) (by decide);have a:m.act ⟨36,0,0,0,0⟩=({ m with state:=1,code:=V.reg 0 },m.place,0):=by
  unfold Mach.act;simp only[g];rw[if_neg (by decide),if_neg (by decide),if_neg (by decide),if_neg (by decide),if_neg (by decide),if_neg (by decide),if_neg (by decide),if_neg (by decide),if_neg (by decide),if_neg (by decide)]
 obtain⟨h,d⟩:=Zt hI hm h0 h1 (j:=0) (y:=⟨36,0,0,0,0⟩) (by rw[f];rfl) (by simp) hg (by rw[a]);have c:=Zox hm.ok (x:=⟨36,0,0,0,0⟩) (Int.le_refl _);rw[a] at c;rw[Zcx,h,a];have l1:=Zci hI h0;have l2:=Zci hI (i:=i+1) (j:=I.i1) h1;have hp:=hm.place;exact⟨⟨placed c.1 c.2,rfl,rfl,hm.len,hm.code,⟨by show I.adr I.i0<=m.place;omega,by show m.place<I.adr I.i1;omega⟩,hm.reg,hm.mem,hm.inp,hm.out⟩,hp⟩
end
structure S.bj (I:Img)(m:Mach)(st:Vw):Prop where
 ok:m.Ok
 len:(m.mem.length:Int)=I.size
 code:I.In m.mem
 reg:∀j,visB j=true->m.rd j=st.reg j
 mem:∀a,0<=a->a<I.size->¬I.stk a->m.mv a=st.mem a
theorem Zt7 {j:Int}(h:visB j=true):0<=j/\j<=31/\j≠25:=by
 unfold visB at h;have:=of_decide_eq_true h;omega
theorem Zp2 {I:Img}{m:Mach}{V st:Vw}{c:Int}(h:Off I m V c)(hm:Mt I V st):bj I m st :=
 ⟨h.ok,h.len,h.code,λ j f=>by
  obtain⟨h1,d,e⟩:=Zt7 f;rw[h.reg j h1 d e];exact hm.vis j f,λ a h1 d e=>by rw[h.mem a h1 d];exact hm.mem a h1 d e⟩
end
theorem Zop {m:Mach}{i v:Int}(h0:0<=i)(h1:i<m.mem.length):m.putV i v={ m with mem:=m.mem.set i.toNat v }:=by
 unfold Mach.putV;rw[if_pos ⟨h0,h1⟩]
theorem Zbi (m:Mach)(i v:Int):(m.putV i v).reg=m.reg/\(m.putV i v).place=m.place/\(m.putV i v).input=m.input/\(m.putV i v).out=m.out/\(m.putV i v).state=m.state/\(m.putV i v).steps=m.steps/\(m.putV i v).mem.length=m.mem.length:=by
 unfold Mach.putV
 split <;> simp
theorem Ze2 {m:Mach}{i v a:Int}(h0:0<=i)(h1:i<m.mem.length)(ha:0<=a):(m.putV i v).mv a=if a=i then v else m.mv a:=by
 rw[Zop h0 h1]
 show(m.mem.set i.toNat v).getD a.toNat 0=if a=i then v else m.mem.getD a.toNat 0
 by_cases c:a=i
 .subst c
  rw[if_pos rfl];have:a.toNat<m.mem.length:=by omega
  simp[this]
 .rw[if_neg c]
  have:¬i.toNat=a.toNat:=by omega
  simp only[Yh,Ybd this]
theorem Zdz (m:Mach)(i v j:Int):(m.putV i v).rd j=m.rd j:=by
 unfold Mach.rd;rw[(Zbi m i v).1]
theorem Zai {m:Mach}{i v:Int}(h0:0<i)(h1:i<32):m.setV i v={ m with reg:=m.reg.set i.toNat v }:=by
 unfold Mach.setV Mach.put;rw[if_pos ⟨by omega,h1⟩,if_neg (by omega)]
theorem Zby {m:Mach}(h:m.Ok){i v j:Int}(h0:0<i)(h1:i<32):(m.setV i v).rd j=if j=i then v else m.rd j:=by
 rw[Zai h0 h1];have hr:=h.regs
 show(m.reg.set i.toNat v).getD j.toNat 0=if j=i then v else m.reg.getD j.toNat 0
 by_cases c:j=i
 .subst c
  rw[if_pos rfl];have:j.toNat<m.reg.length:=by omega
  simp[this]
 .rw[if_neg c]
  have:¬i.toNat=j.toNat:=by omega
  simp only[Yh,Ybd this]
theorem Zcn {m:Mach}{i v a:Int}(h0:0<i)(h1:i<32):(m.setV i v).mv a=m.mv a:=by
 rw[Zai h0 h1];rfl
theorem Zmk {m:Mach}{i:Int}(h0:0<=i)(h1:i<32):m.regV i=m.rd i:=by
 unfold Mach.regV;rw[if_pos ⟨h0,h1⟩];rfl
theorem Z0f {m:Mach}{i:Int}(h0:0<=i)(h1:i<m.mem.length):m.memV i=m.mv i:=by
 unfold Mach.memV;rw[if_pos ⟨h0,h1⟩];rfl
theorem Zt8 {I:Img}(hI:I.Ok){mem:List Int}(h:I.In mem){p:Int}(hp:0<=p)(l:¬I.code p)(v:Int):I.In (mem.set p.toNat v):=λ k k0 f j w g=>by
 have a:=h k k0 f j w g;have m:=(List.getElem?_eq_some_iff.1 g).1;have d:=Zag (base:=0) (Zak hI) (Zdg (Zcy hI)) hI.words k;have n:I.adr (k+1)=I.adr k+sizeAt I.xs I.F k:=rfl;have l1:=Zci hI (i:=I.i0) (j:=k) k0;have l2:=Zci hI (i:=k+1) (j:=I.i1) f;have l3:=Zmw hI k;have c:¬p.toNat=(I.adr k).toNat+j:=by
  intro e;exact l ⟨by omega,by omega⟩
 rw[<- a];simp only[Yh,Ybd c]
theorem Zt9 {m:Mach}(h:m.Ok){i v:Int}(a:0<=v/\v<=4294967295):(m.putV i v).Ok:=by
 unfold Mach.putV
 split
 .rename_i c
  refine⟨h.regs,h.word,h.zero,by simpa using h.mem,λ j=>?_,h.place0,h.place1,h.inp,h.outp,h.code0,h.code1⟩
  show 0<=(m.mem.set i.toNat v).getD j 0/\(m.mem.set i.toNat v).getD j 0<=4294967295
  by_cases e:i.toNat=j
  .subst e
   have:i.toNat<m.mem.length:=by omega
   simp[this];exact a
  .have:=h.memw j
   simp only[Yh,Ybd e] at this⊢;exact this
 .exact h
theorem Zre (n f a t:Int):wordsOf (S.bSp n) f a t=List.replicate n.toNat 0:=by
 have c:(S.bSp n).kind=8:=rfl;unfold wordsOf;rw[c,if_neg (by decide),if_neg (λ h=>absurd h.1 (by decide)),if_neg (λ h=>absurd h.1 (by decide)),if_neg (by decide),if_neg (λ h=>absurd h.1 (by decide)),if_neg (by decide),if_neg (by decide),if_neg (by decide),if_neg (by decide),if_pos rfl];rfl
theorem Zh0 (n f a t:Int):wordsOf (S.bW n) f a t=[n]:=by
 have c:(S.bW n).kind=6:=rfl;unfold wordsOf;rw[c,if_neg (by decide),if_neg (λ h=>absurd h.1 (by decide)),if_neg (λ h=>absurd h.1 (by decide)),if_neg (by decide),if_neg (λ h=>absurd h.1 (by decide)),if_neg (by decide),if_neg (by decide),if_pos rfl];rfl
def S.wM (L:List Int)(heap:Int)(inp:List Int):Mach :=
 ((((((((Zkc L (L.length+heap).toNat inp).putV 1 heap).putV 2 L.length).putV 3 (L.length+heap/2)).putV 4 (heap/2)).putV 5 38).setV 26 L.length).setV 27 (L.length+heap/2)).setV 28 1056
section
section
variable {P:Program}{ops:Array Oper}{md:Yby}{C:World->Prop}
def Z1o (md:Yby)(ops:Array Oper)(n:Nat):Prop:=∀(listed:Array Bool),HeadInv md ops n listed->∀i,i<n->listed.getD i true=false->∀t,n<=t->t ∉ Yay md ops listed
def Z4e (md:Yby)(ops:Array Oper)(n:Nat):Bool :=
 (Yb7 ops.size).all λ t=>decide (t<n) || ((Yb7 t).any λ j=>decide (n<=j) && Ybf md ops t j) ||
  (Yb7 n).all λ i=>(Yb7 (t+1)).any λ j=>decide (i<j) && (decide (j<n) || decide (j=t)) && Ybf md ops j i
theorem Zrf {n:Nat}(A:Z4e md ops n=true):Z1o md ops n:=by
 intro c k i hi f t ht B;obtain⟨_,y,l,h⟩:=mem_ready.1 B;have o:t<ops.size:=(Array.getElem?_eq_some_iff.1 l).1;have h1:=Ya2.1 A t (Ycr.2 o);simp only[Ybt,decide_eq_true_eq] at h1;rcases h1 with(h1|h1) | h1
 .omega
 .obtain⟨j,z,a⟩:=Ybl.1 h1
  simp only[Yq,decide_eq_true_eq] at a;have m:=Ycr.1 z;obtain⟨D,w,e,u,s,g⟩:=Yb6 a.2;have:D=y:=Option.some.inj (w.symm.trans l);subst this;have r:=h e u s;rw[g,getD_both (k.tail j a.1 (by omega))] at r
  cases r
 .have key:∀(d i:Nat),n-i=d->i<n->c.getD i true=false->False:=by
   intro d
   induction d using Nat.strongRecOn with
   | _ d ih =>
    intro i hd hi f;have r:=Ya2.1 h1 i (Ycr.2 hi);obtain⟨j,z,a⟩:=Ybl.1 r;simp only[Yq,Ybt,decide_eq_true_eq] at a;obtain⟨x,q,e,u,s,g⟩:=Yb6 a.2;rcases a.1.2 with v|m
    .cases hl:c.getD j false with
     | true =>
      have p:=k.closed j x q hl e u s;rw[g,getD_both f] at p
      cases p
     | false=>exact ih (n-j) (by omega) j rfl v (getD_in (by rw[k.size];omega) hl)
    .subst m
     have:x=y:=Option.some.inj (q.symm.trans l);subst this;have p:=h e u s;rw[g,getD_both f] at p
     cases p
  exact key _ i rfl hi f
theorem Zjm {n i:Nat}{z:Oper}{v:Value}{L:Array Bool->Act->Prop}(hi:ops[i]?=some z)(s:∀(j:Nat)(o:Oper) cs b,ops[j]?=some o->o.op≠.select cs b)
 (O:Z1o md ops n) (hn:n<=ops.size) (G:i<n) (u:∀c a,L c a->∀j∈Yay md ops c,n<=j) :
 ∀(f:Nat)(c:Array Bool)(a:Act),HeadInv md ops n c ->
  (∀j w,ops[j]?=some w->j≠i->c.getD j true=false->(∀e∈w.after,Ybn md e=true->e.on≠i)->z.apart ops w=true) ->
  i∈Yay md ops c->YieldsIn P ops C z v a ->
  Zb1 P md ops C n L f (c.setIfInBounds i true) (a.put z.dst v)->Zb1 P md ops C n L (f+1) c a:=by
 intro f
 induction f with
 | zero =>
  intro c a q _ t J H;have l:=(mem_ready.1 t).1;refine⟨λ h=>(by rw[h] at t;cases t),λ j x=>?_⟩;have p:j<n:=Ybv λ h=>absurd x (O c q i G l j h)
  refine⟨p,?_⟩;by_cases d:j=i
  .subst d;exact J.qOp hi H
  .exact absurd (u _ _ H j (ready_mono x d)) (by omega)
 | succ f ih =>
  intro c a q g t J H;have l:=(mem_ready.1 t).1;refine⟨λ h=>(by rw[h] at t;cases t),λ j x=>?_⟩;have p:j<n:=Ybv λ h=>absurd x (O c q i G l j h)
  refine⟨p,?_⟩;by_cases d:j=i
  .subst d;exact J.qOp hi H
  .have h1:=(H.2 j (ready_mono x d)).2
   obtain⟨r,w,y,B⟩:=mem_ready.1 x;have A:∀e∈w.after,Ybn md e=true->e.on≠i:=λ e U V M=>by
    have h1:=B e U V;rw[M,getD_both l] at h1
    cases h1
   have R:=qOp_put y (g j w y d r A) (λ cs b=>s i z cs b hi) (λ cs b=>s j w cs b y) J h1;have m:∀k ok,ops[k]?=some ok->k≠i->(c.setIfInBounds j true).getD k true=false ->
    (∀e∈ok.after,Ybn md e=true->e.on≠i)->z.apart ops ok=true:=λ k ok W K D N=>by
    refine g k ok W K ?_ N;by_cases E:j=k
    .subst E;exact r
    .rw[getD_set_ne true E] at D;exact D
   refine qOp_mono (λ T Q=>ih (c.setIfInBounds j true) T (q.set x p) m (ready_mono t (Ne.symm d)) Q.1 ?_) R;rw[Array.setIfInBounds_comm _ _ d];exact Q.2
theorem Zgv {n:Nat}{q:Act->Prop}(f:Yck ops=true)(t:Z1o md ops n)(w:n<=ops.size)(p:Array Bool)(e:∀j∈Yay md ops p,n<=j) :
 ∀(l:List Oper)(k:Nat)(c:Array Bool)(a:Act),(∀j,j<l.length->l[j]?=ops[k+j]?)->k+l.length=n->HeadInv md ops n c->Ztz l.length k c=p ->
 Z6s md ops n l.length k c=true->wpQuiet P ops C q l a ->
 Zb1 P md ops C n (λ d u=>d=p/\q u) l.length c a
 | [],k,c,a,_,hk,_,hE,hB,h=>⟨hE,h⟩
 | o::l,k,c,a,hl,hk,inv,hE,hB,h=>by
  have h0:ops[k]?=some o:=by simpa using (hl 0 (by simp)).symm
  simp only[Yk,Z6s,Yq] at hB;obtain⟨⟨A,hf⟩,r⟩:=hB;have g:k<n:=by simp only[Yk] at hk;omega
  have m:k∈Yay md ops c:=by simpa using A
  have s:qOp P ops C k (wpQuiet P ops C q l) a:=by unfold qOp;simp only[h0];exact h
  obtain⟨v,z,x⟩:=yieldsIn_of_qOp h0 s;exact Zjm h0 (Region.noSelect_spec f) t w g (λ d u y=>by rw[y.1];exact e) l.length c a inv (Region.free_spec h0 hf) m z
   (Zgv f t w p e l (k+1) _ _ (λ j hj=>by have:=hl (j+1) (by simp;omega);simpa[Nat.add_assoc,Nat.add_comm 1 j] using this) (by simp only[Yk] at hk;omega) (inv.set m g) hE r x)
end
theorem Zcg {P:Program}{id:Nat}{Q:Exit->Act->World->Prop}{a:Act}{w:World}{l:List Oper}(n:Nat)(m:Array Bool)(hm:P.follows .mixedOrders=true)
 (y:(Yck l.toArray && decide (n<l.toArray.size) && Z4e .any l.toArray n && Z6s .any l.toArray n n 0 (Array.replicate l.toArray.size false) && decide (Ztz n 0 (Array.replicate l.toArray.size false)=m) && (Yay .any l.toArray m).all λ j=>decide (n<=j))=true)
 (h:wpQuiet P l.toArray (λ w'=>∃x:Ext w,w'=x.val) (λ v=>∀w',(∃x:Ext w,w'=x.val)->wpAny P .any l.toArray Q (l.toArray.size-n) m v w') (l.take n) a):(Code.region id l.toArray true).wp P Q a w:=by
 simp only[Yq,decide_eq_true_eq] at y;obtain⟨⟨⟨⟨⟨k,z⟩,B⟩,d⟩,E⟩,hd⟩:=y;have G:n<l.length:=by simpa using z
 have c:(l.take n).length=n:=by simp;omega
 have f:HeadInv .any l.toArray n (Array.replicate l.toArray.size false) :=
  ⟨by simp,λ j oj _ A=>(by rw[getD_replicate_false] at A;cases A),λ t _ D=>getD_in (by simpa using D) (getD_replicate_false _ _)⟩
 have H:=Zgv (md:=.any) k (Zrf B) (Nat.le_of_lt z) m (λ j o=>by simpa using Ya2.1 hd j o) (l.take n) 0 _ a (λ j o=>by
  have q:j<n:=by rw[c] at o;exact o
  simp[q]) (by simpa using c) f (by rw[c];exact E) (by rw[c];exact d) h
 refine wp_region_any hm ?_;have u:=Zbp (Q':=Q) (g:=l.toArray.size-n) (λ p v w' r s=>by
  rw[s.1];exact s.2 w' r) _ _ _ _ (⟨⟨_,Zfh w⟩,rfl⟩:∃x:Ext w,{ w with drawn:=w.drawn+1 }=x.val) H
 have e:n+(l.toArray.size-n)=l.toArray.size:=by omega
 rw[c,e] at u;exact u
end
