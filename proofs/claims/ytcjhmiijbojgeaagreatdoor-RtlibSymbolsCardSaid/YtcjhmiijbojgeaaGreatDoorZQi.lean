/- Parts. -/
import Derived.Test.YtcjhmiijbojgeaaGreatDoorZQe
import Derived.KernelRfl
import Derived.Scope
set_option linter.all false
set_option maxHeartbeats 1000000
open Go.Lib renaming hid->Ya,cell_of_heap->Yb
open Nat renaming le_refl->Yc,zero_add->Y2,lt_succ_self->Ya6,add_zero->Ybe,strongRecOn->Ycx,add_mul->Yde
open List renaming length_append->Yd,getElem?_eq_getElem->Ye,getElem?_eq_some_iff->Yg,length_cons->Yk,append_assoc->Yp,eq_nil_of_length_eq_zero->Y4,replicate->Y6,length_take->Yaa,flatMap_cons->Yaz,getElem?_take->Ybi,ext_getElem->Yca,size_toArray->Yc0,mapM_cons->Yds
open Bool renaming and_eq_true->Yq,false_eq_true->Ybq
open Array renaming getElem?_eq_some_iff->Y3,replicate->Ya9,toArray_toList->Ybw,length_toList->Ybz,getD_eq_getD_getElem?->Ycn,getElem?_eq_getElem->Ydk,mapM_eq_mapM_toList->Ydl
open Go.Result renaming andThen_ok->Y5
open Option renaming isSome_iff_exists->Y7,map_some->Ycl
open Go.Value renaming ownBlock->Yah
open Go.Sem renaming run_bind->Yai,run_pure->Yat
open Go.Region renaming wanted->Yak,ready->Yay,waitsFor->Ybf,binds->Ybn
namespace Go.Proofs.YtcjhmiijbojgeaaGreatDoor
open S Go.Proofs.Tryz Go.RowKit
namespace S
def kN (l:List UInt8):ByteArray:=⟨([110,117,109]++l).toArray⟩
def Z2f:ByteArray:=kN [105,110,116]
def Ze7:ByteArray:=kN [108,101,110]
def Zgh:ByteArray:=kN [110,101,103]
def Zg5:ByteArray:=kN [100,105,103]
def Zr3:ByteArray:=kN [99,109,112]
def Zr4:ByteArray:=kN [102,105,110]
def Z2g:ByteArray:=kN [97,100,100]
def Z2h:ByteArray:=kN [115,117,98]
def Z5k:ByteArray:=kN [115,117,109]
def Z5l:ByteArray:=kN [109,117,108]
def Z2i:ByteArray:=kN [116,111,112]
def Z2j:ByteArray:=kN [115,104,108]
def Z00:ByteArray:=kN [116,97,107,101]
def Z01:ByteArray:=kN [98,97,99,107]
def Z5m:ByteArray:=kN [100,105,118]
def Z6u (v:BE):BE:=eNot (eAnd v (eC 3))
def Zxi (n:Int):BS:=sAs n (eAdd (eL n) (eC 1))
def eDg (e:BE):BE:=eShl (eAnd e (eC 65535)) 2
def eH:BE:=eR 26
def Z7s:BR:=⟨Z2f,1,1,false,
 [sWhen (Z6u (eL 0)) [sVal (eC 1)],
  sWhen (eNot (isRef (eL 0))) [sVal (eC 0)],
  sVal (eQ (eAnd (eM (eAdr (eL 0)) 0) (eC 31)) (eC 31))]⟩
def Z7t:BR:=⟨Ze7,1,1,false,
 [sWhen (Z6u (eL 0)) [sVal (eC 2)],
  sVal (eSub (eShr (eM (eAdr (eL 0)) 0) 5) (eC 1))]⟩
def Z7u:BR:=⟨Zgh,1,1,false,
 [sWhen (Z6u (eL 0)) [sVal (eShr (eL 0) 31)],
  sVal (eShr (eM (eAdr (eL 0)) 1) 2)]⟩
def Z7v:BR:=⟨Zg5,2,3,false,
 [sIf (Z6u (eL 0))
  [sAs 2 (eB 12 (eL 0) (eC 2)),
   sWhen (eShr (eL 0) 31) [sAs 2 (eSub (eC 0) (eL 2))],
   sWhen (eNot (eL 1)) [sVal (eAnd (eL 2) (eC 65535))],
   sWhen (eQ (eL 1) (eC 1)) [sVal (eShr (eL 2) 16)]]
  [sWhen (eLt (eL 1) (eF Ze7 [eL 0])) [sVal (eShr (eM (eAdd (eAdr (eL 0)) (eL 1)) 2) 2)]],
  sVal (eC 0)]⟩
def Z7w:BR:=⟨Zr3,2,5,false,
 [sAs 2 (eAdd (eF Ze7 [eL 0]) (eF Ze7 [eL 1])),
  sWh (eL 2)
   [sAs 2 (eSub (eL 2) (eC 1)),
    sAs 3 (eF Zg5 [eL 0,eL 2]),
    sAs 4 (eF Zg5 [eL 1,eL 2]),
    sWhen (eLt (eL 3) (eL 4)) [sVal (eC 0)],
    sWhen (eLt (eL 4) (eL 3)) [sVal (eC 2)]],
  sVal (eC 1)]⟩
def Z7x:BR:=⟨Zr4,2,4,false,
 [sAs 3 (eC 1),
  sWh (eL 3)
   [sAs 3 (eC 0),
    sWhen (eL 1) [sWhen (eNot (eM (eAdd eH (eL 1)) 1)) [sAs 1 (eSub (eL 1) (eC 1)),sAs 3 (eC 1)]]],
  sAs 2 (eC 0),
  sWhen (eL 1) [sAs 2 (eShr (eM eH 2) 2)],
  sWhen (eQ (eL 1) (eC 2)) [sAs 2 (eB 8 (eL 2) (eShl (eM eH 3) 14))],
  sWhen (eLt (eL 1) (eC 3))
   [sWhen (eLt (eL 2) (eAdd (eC 536870912) (eL 0)))
    [sWhen (eL 0) [sAs 2 (eSub (eC 0) (eL 2))],
     sVal (eShl (eL 2) 2)]],
  sPut eH 0 (eB 8 (eShl (eAdd (eL 1) (eC 1)) 5) (eC 31)),
  sPut eH 1 (eShl (eL 0) 2),
  sSet 26 (eAdd (eAdd eH (eL 1)) (eC 2)),
  sVal (eRef (eSub (eSub eH (eL 1)) (eC 2)))]⟩
def Z7y:BR:=⟨Z2g,3,6,false,
 [sAs 3 (eC 0),
  sAs 4 (eF Ze7 [eL 0]),
  sWhen (eLt (eL 4) (eF Ze7 [eL 1])) [sAs 4 (eF Ze7 [eL 1])],
  sAs 5 (eC 0),
  sWh (eLt (eL 3) (eL 4))
   [sAs 5 (eAdd (eL 5) (eAdd (eF Zg5 [eL 0,eL 3]) (eF Zg5 [eL 1,eL 3]))),
    sPut (eAdd eH (eL 3)) 2 (eDg (eL 5)),
    sAs 5 (eShr (eL 5) 16),
    Zxi 3],
  sPut (eAdd eH (eL 4)) 2 (eDg (eL 5)),
  sVal (eF Zr4 [eL 2,eAdd (eL 4) (eC 1)])]⟩
def Z7z:BR:=⟨Z2h,3,6,false,
 [sAs 3 (eC 0),
  sAs 4 (eF Ze7 [eL 0]),
  sAs 5 (eC 0),
  sWh (eLt (eL 3) (eL 4))
   [sAs 5 (eSub (eAdd (eC 65536) (eF Zg5 [eL 0,eL 3])) (eAdd (eF Zg5 [eL 1,eL 3]) (eL 5))),
    sPut (eAdd eH (eL 3)) 2 (eDg (eL 5)),
    sAs 5 (eSub (eC 1) (eShr (eL 5) 16)),
    Zxi 3],
  sVal (eF Zr4 [eL 2,eL 4])]⟩
def Z70:BR:=⟨Z5k,3,5,false,
 [sAs 3 (eF Zgh [eL 0]),
  sAs 4 (eB 9 (eF Zgh [eL 1]) (eL 2)),
  sWhen (eQ (eL 3) (eL 4)) [sVal (eF Z2g [eL 0,eL 1,eL 3])],
  sWhen (eF Zr3 [eL 0,eL 1]) [sVal (eF Z2h [eL 0,eL 1,eL 3])],
  sVal (eF Z2h [eL 1,eL 0,eL 4])]⟩
def Z2k:BE:=eAdd eH (eAdd (eL 2) (eL 3))
def Z71:BR:=⟨Z5l,2,7,false,
 [sAs 6 (eAdd (eF Ze7 [eL 0]) (eF Ze7 [eL 1])),
  sAs 2 (eC 0),
  sWh (eLt (eL 2) (eL 6)) [sPut (eAdd eH (eL 2)) 2 (eC 0),Zxi 2],
  sAs 2 (eC 0),
  sWh (eLt (eL 2) (eF Ze7 [eL 0]))
   [sAs 4 (eF Zg5 [eL 0,eL 2]),
    sAs 5 (eC 0),
    sAs 3 (eC 0),
    sWh (eLt (eL 3) (eF Ze7 [eL 1]))
     [sAs 5 (eAdd (eAdd (eL 5) (eShr (eM Z2k 2) 2)) (eB 3 (eL 4) (eF Zg5 [eL 1,eL 3]))),
      sPut Z2k 2 (eDg (eL 5)),
      sAs 5 (eShr (eL 5) 16),
      Zxi 3],
    sPut Z2k 2 (eDg (eL 5)),
    Zxi 2],
  sVal (eF Zr4 [eB 9 (eF Zgh [eL 0]) (eF Zgh [eL 1]),eL 6])]⟩
def Z72:BR:=⟨Z2i,1,3,false,
 [sAs 1 (eF Ze7 [eL 0]),
  sAs 2 (eC 1),
  sWh (eL 2)
   [sAs 2 (eC 0),
    sWhen (eL 1) [sWhen (eNot (eF Zg5 [eL 0,eSub (eL 1) (eC 1)])) [sAs 1 (eSub (eL 1) (eC 1)),sAs 2 (eC 1)]]],
  sVal (eL 1)]⟩
def Z73:BR:=⟨Z2j,4,6,false,
 [sAs 4 (eC 0),
  sAs 5 (eC 0),
  sWh (eLt (eL 4) (eL 1))
   [sAs 5 (eB 8 (eL 5) (eB 10 (eF Zg5 [eL 0,eL 4]) (eL 2))),
    sPut (eAdd (eL 3) (eL 4)) 0 (eAnd (eL 5) (eC 65535)),
    sAs 5 (eShr (eL 5) 16),
    Zxi 4],
  sPut (eAdd (eL 3) (eL 1)) 0 (eL 5),
  sVal (eC 0)]⟩
def Z5n:BR:=⟨Z00,4,8,false,
 [sAs 4 (eC 0),
  sAs 5 (eC 0),
  sAs 6 (eC 0),
  sWh (eLt (eL 4) (eL 2))
   [sAs 7 (eAdd (eL 5) (eB 3 (eL 3) (eM (eAdd (eL 1) (eL 4)) 0))),
    sAs 5 (eShr (eL 7) 16),
    sAs 7 (eSub (eAdd (eC 65536) (eM (eAdd (eL 0) (eL 4)) 0)) (eAdd (eAnd (eL 7) (eC 65535)) (eL 6))),
    sPut (eAdd (eL 0) (eL 4)) 0 (eAnd (eL 7) (eC 65535)),
    sAs 6 (eSub (eC 1) (eShr (eL 7) 16)),
    Zxi 4],
  sAs 7 (eSub (eAdd (eC 65536) (eM (eAdd (eL 0) (eL 2)) 0)) (eAdd (eL 5) (eL 6))),
  sPut (eAdd (eL 0) (eL 2)) 0 (eAnd (eL 7) (eC 65535)),
  sVal (eSub (eC 1) (eShr (eL 7) 16))]⟩
def Z5o:BR:=⟨Z01,3,5,false,
 [sAs 3 (eC 0),
  sAs 4 (eC 0),
  sWh (eLt (eL 3) (eL 2))
   [sAs 4 (eAdd (eL 4) (eAdd (eM (eAdd (eL 0) (eL 3)) 0) (eM (eAdd (eL 1) (eL 3)) 0))),
    sPut (eAdd (eL 0) (eL 3)) 0 (eAnd (eL 4) (eC 65535)),
    sAs 4 (eShr (eL 4) 16),
    Zxi 3],
  sAs 4 (eAdd (eL 4) (eM (eAdd (eL 0) (eL 2)) 0)),
  sPut (eAdd (eL 0) (eL 2)) 0 (eAnd (eL 4) (eC 65535)),
  sVal (eShr (eL 4) 16)]⟩
def eAt:BE:=eAdd (eL 6) (eL 8)
def Z9c:BE:=eB 8 (eShl (eM (eAdd eAt (eL 4)) 0) 16) (eM (eAdd eAt (eL 4)) (-1))
def Z74:BR:=⟨Z5m,3,11,false,
 [sWhen (eNot (eF Zr3 [eL 0,eL 1]))
  [sWhen (eL 2) [sVal (eF Z2g [eL 0,eC 0,eF Zgh [eL 0]])],
   sVal (eC 0)],
  sAs 3 (eF Z2i [eL 0]),
  sAs 4 (eF Z2i [eL 1]),
  sAs 5 (eC 0),
  sAs 9 (eF Zg5 [eL 1,eSub (eL 4) (eC 1)]),
  sWh (eLt (eB 10 (eL 9) (eL 5)) (eC 32768)) [Zxi 5],
  sAs 6 (eAdd (eAdd eH (eL 3)) (eC 4)),
  sAs 7 (eAdd (eAdd (eL 6) (eL 3)) (eC 1)),
  sDo (eF Z2j [eL 0,eL 3,eL 5,eL 6]),
  sDo (eF Z2j [eL 1,eL 4,eL 5,eL 7]),
  sAs 8 (eAdd (eSub (eL 3) (eL 4)) (eC 1)),
  sWh (eL 8)
   [sAs 8 (eSub (eL 8) (eC 1)),
    sAs 9 (eB 5 Z9c (eM (eAdd (eL 7) (eL 4)) (-1))),
    sWhen (eLt (eC 65535) (eL 9)) [sAs 9 (eC 65535)],
    sAs 10 (eF Z00 [eAt,eL 7,eL 4,eL 9]),
    sWh (eL 10)
     [sAs 9 (eSub (eL 9) (eC 1)),
      sWhen (eF Z01 [eAt,eL 7,eL 4]) [sAs 10 (eC 0)]],
    sPut (eAdd eH (eL 8)) 2 (eDg (eL 9))],
  sWhen (eNot (eL 2)) [sVal (eF Zr4 [eB 9 (eF Zgh [eL 0]) (eF Zgh [eL 1]),eAdd (eSub (eL 3) (eL 4)) (eC 1)])],
  sAs 8 (eC 0),
  sWh (eLt (eL 8) (eL 4))
   [sAs 9 (eB 8 (eShl (eM (eAdd eAt (eC 1)) 0) 16) (eM eAt 0)),
    sPut (eAdd eH (eL 8)) 2 (eDg (eB 11 (eL 9) (eL 5))),
    Zxi 8],
  sVal (eF Zr4 [eF Zgh [eL 0],eL 4])]⟩
def Z5p:List BS:=[sWhen (eNot (eF Z2f [eL 0])) [sHlt (eC 2)],sWhen (eNot (eF Z2f [eL 1])) [sHlt (eC 2)]]
def Z5q:List BS :=
 [sKeep 16 (eL 0),sKeep 17 (eL 1),sKeep 8 (eC 2),sKeep 6 eK,
  sAs 2 (eAdd (eF Ze7 [eL 0]) (eF Ze7 [eL 1])),
  sDo (eF kReserve [eAdd (eAdd (eL 2) (eShl (eL 2) 1)) (eC 20)]),
  sAs 0 (eW 16),sAs 1 (eW 17),sKeep 8 (eC 0),sKeep 6 (eC 0)]
def Z2l (op:Int)(l:List BS):BR:=⟨kRt op,2,3,true,Z5p++l⟩
def Z2m (op:Int)(ahead:List BS)(v:BE):BR:=Z2l op (ahead++(Z5q++[sVal v]))
def Z75:List BS:=[sWhen (eNot (eL 1)) [sHlt (eC 4)]]
def Zqi (e:BE):BS:=sIf e [sVal (eC 22)] [sVal (eC 6)]
def Z02:BE:=eQ (eF Zgh [eL 0]) (eF Zgh [eL 1])
def Z9d:BR:=Z2l 13 [Zqi (eAnd Z02 (eQ (eF Zr3 [eL 0,eL 1]) (eC 1)))]
def Z5r:BR:=Z2l 14
 [sWhen (eNot Z02) [Zqi (eF Zgh [eL 0])],
  sWhen (eF Zgh [eL 0]) [Zqi (eQ (eF Zr3 [eL 0,eL 1]) (eC 2))],
  Zqi (eNot (eF Zr3 [eL 0,eL 1]))]
def Z5s (k:Int):BR:=Z2m (8+k) [] (eF Z5k [eL 0,eL 1,eC k])
def Z5t (k:Int):BR:=Z2m (11+k) Z75 (eF Z5m [eL 0,eL 1,eC k])
def Z76:BR:=Z2m 10 [] (eF Z5l [eL 0,eL 1])
def rs27:List BR:=[Z7s,Z7t,Z7u,Z7v,Z7w,Z7x,Z7y,Z7z,Z70,Z71,Z72,Z73,Z5n,Z5o,Z74,Z5s 0,Z5t 0,Z5s 1,Z5t 1,Z76,Z9d,Z5r]
def Z5u:List Obj:=rs27.map ofR
end S
section
namespace S
structure Sim (st st1:Vw):Prop where
 mem:st1.mem=st.mem
 reg:∀j,¬(4<=j/\j<=7)->st1.reg j=st.reg j
 inp:st1.inp=st.inp
 out:st1.out=st.out
mutual
def dE:BE->Nat
 | .mk _ _ _ kids=>dEs kids
def dEs:List BE->Nat
 | []=>0
 | e::r=>max (dE e) (dEs r+1)
end
def Yl (I:Img)(dep lk:Int)(env:List Int)(st:Vw)(e:BE)(x:Int)(K:Nat):Prop :=
 ∀(at_:Nat)(st1:Vw)(c:Nat)(Q H:Int->Vw->Nat->Prop),at_+dE e<=20->Sim st st1->(∀st2 c2,Sim st st2->c2<=c+K->Q x st2 c2)->wpE I dep lk env e at_ st1 c Q H
def Yls (I:Img)(dep lk:Int)(env:List Int)(st:Vw)(l:List BE)(xs:List Int)(K:Nat):Prop :=
 ∀(at_:Nat)(st1:Vw)(c:Nat)(Q:List Int->Vw->Nat->Prop)(H:Int->Vw->Nat->Prop),at_+dEs l<=20->Sim st st1->(∀st2 c2,Sim st st2->c2<=c+K->Q xs st2 c2)->wpEs I dep lk env l at_ st1 c Q H
def RetN (st:Vw)(x:Int)(K:Nat)(o:BO)(k:Nat):Prop:=∃st',o=.ret st'/\st'.reg 4=x/\Sim st st'/\k<=K
def Tells (I:Img)(name:ByteArray)(st:Vw)(xs:List Int)(d:Int)(x:Int)(K:Nat):Prop :=
 ∀st1,Sim st st1->Real I name false (st1.args xs) d (λ _ o k=>RetN st x K o k)
def WS (I:Img)(dep lk:Int)(behind:Bool)(l:List BS)(env:List Int)(st:Vw)(C:Nat)(Q:List Int->Vw->Nat->Prop)(R:BO->Nat->Prop):Prop :=
 ∀st1 c,Sim st st1->c<=C->wpSs I dep lk behind l env st1 c Q R
end S
theorem S.Sim.refl (st:S.Vw):S.Sim st st:=⟨rfl,λ _ _=>rfl,rfl,rfl⟩
theorem S.Sim.trans {a b c:S.Vw}(h:S.Sim a b)(k:S.Sim b c):S.Sim a c:=⟨k.mem.trans h.mem,λ j d=>(k.reg j d).trans (h.reg j d),k.inp.trans h.inp,k.out.trans h.out⟩
theorem S.Sim.sto {a b:S.Vw}(h:S.Sim a b)(p x:Int):S.Sim (a.sto p x) (b.sto p x):=⟨by
 funext y
 show(if y=p then x else b.mem y)=if y=p then x else a.mem y
 rw[h.mem],h.reg,h.inp,h.out⟩
theorem S.Sim.set {a b:S.Vw}(h:S.Sim a b)(p x:Int):S.Sim (a.set p x) (b.set p x):=⟨h.mem,λ j c=>by
 show(if j=p then x else b.reg j)=if j=p then x else a.reg j
 rw[h.reg j c],h.inp,h.out⟩
theorem S.Sim.set4 {a b:S.Vw}(h:S.Sim a b)(x:Int):S.Sim a (b.set 4 x):=⟨h.mem,λ j c=>by
 show(if j=4 then x else b.reg j)=_
 rw[if_neg (by omega)];exact h.reg j c,h.inp,h.out⟩
theorem S.Sim.args {a b:S.Vw}(h:S.Sim a b){xs:List Int}(hl:xs.length<=4):S.Sim a (b.args xs):=⟨h.mem,λ j c=>by
 show(if 4<=j/\j<4+(xs.length:Int) then _ else b.reg j)=_
 rw[if_neg (by omega)];exact h.reg j c,h.inp,h.out⟩
section
variable {I:S.Img}{dep lk:Int}{env:List Int}{st:S.Vw}
theorem Za6 (n:Int):S.Yl I dep lk env st (S.eC n) (n%4294967296) 2:=λ at_ b c Q H _ d h=>by
 rw[Z49];exact h _ _ d (Yc _)
theorem Zeu (n:Int):S.Yl I dep lk env st (S.eL n) (env.getD n.toNat 0) 1:=λ at_ b c Q H _ d h=>by
 rw[Z7i];exact h _ _ d (Yc _)
theorem Z5v {n:Int}(g:¬(4<=n/\n<=7)):S.Yl I dep lk env st (S.eR n) (st.reg n) 1:=λ at_ d c Q H _ b h=>by
 rw[Z7j,b.reg n g];exact h _ _ b (Yc _)
theorem Z8r:S.Yl I dep lk env st S.eK lk 1:=λ at_ b c Q H _ d h=>by
 rw[Z7n];exact h _ _ d (Yc _)
theorem S.Yl.to_ {e:S.BE}{x y:Int}{K g:Nat}(h:S.Yl I dep lk env st e x K)(j:x=y)(hK:K<=g):S.Yl I dep lk env st e y g:=λ at_ b c Q H k m n=>by
 subst j;exact h at_ b c Q H k m λ d c2 i hc=>n d c2 i (by omega)
theorem Z8s (op n:Int)(nm:ByteArray)(a b:S.BE):S.dE (.mk op n nm [a,b])=max (S.dE a) (max (S.dE b) 1+1):=by
 rw[S.dE,S.dEs,S.dEs,S.dEs]
theorem Z9e (op n:Int)(nm:ByteArray)(a:S.BE):S.dE (.mk op n nm [a])=max (S.dE a) 1:=by
 rw[S.dE,S.dEs,S.dEs]
theorem Z77 {op:Int}{a b:S.BE}{x y:Int}{k m:Nat}(p:y=0->op≠5/\op≠6)(q:S.Yl I dep lk env st a x k)(v:S.Yl I dep lk env st b y m):S.Yl I dep lk env st (S.eB op a b) (alu op x y) (k+m+1):=λ at_ d c Q H i A h=>by
 have hd:S.dE (S.eB op a b)=_:=Z8s _ _ _ a b;rw[hd] at i;rw[Z7k];exact q at_ d c _ _ (by omega) A λ j c2 n u=>v (at_+1) j c2 _ _ (by omega) n λ g c3 t z=>⟨p,h g (c3+1) t (by omega)⟩
theorem Zc9 {op:Int}{a b:S.BE}{x y:Int}{d c:Nat}(h:op≠5/\op≠6)(i:S.Yl I dep lk env st a x d)(g:S.Yl I dep lk env st b y c):S.Yl I dep lk env st (S.eB op a b) (alu op x y) (d+c+1):=Z77 (λ _=>h) i g
theorem Zpa {a b:S.BE}{x y:Int}{k m:Nat}(p:S.Yl I dep lk env st a x k)(u:S.Yl I dep lk env st b y m):S.Yl I dep lk env st (S.eQ a b) (if x=y then 1 else 0) (k+m+3):=λ at_ d c Q H i z h=>by
 have hd:S.dE (S.eQ a b)=_:=Z8s _ _ _ a b;rw[hd] at i;rw[Z7m];exact p at_ d c _ _ (by omega) z λ j c2 n t=>u (at_+1) j c2 _ _ (by omega) n λ g c3 q v=>h g (c3+3) q (by omega)
theorem Zpb {a:S.BE}{n x p:Int}{K:Nat}(k:S.Yl I dep lk env st a x K)(hp:u32m (x+n)=p)(hd:p<I.size/\¬I.stk p):S.Yl I dep lk env st (S.eM a n) (st.mem p) (K+1):=λ at_ b c Q H d q h=>by
 have i:S.dE (S.eM a n)=_:=Z9e _ _ _ a;rw[i] at d;rw[Z7l];refine k at_ b c _ _ (by omega) q λ g c2 j m=>?_
 rw[hp];refine⟨hd.1,hd.2,?_⟩;rw[j.mem];exact h g (c2+1) j (by omega)
theorem Ze8:S.Yls I dep lk env st [] [] 0:=λ at_ b c Q H _ d h=>by
 rw[S.wpEs];exact h _ _ d (Yc _)
theorem Zbh {e:S.BE}{r:List S.BE}{x:Int}{xs:List Int}{K L:Nat}(t:S.Yl I dep lk env st e x K)(n:S.Yls I dep lk env st r xs L):S.Yls I dep lk env st (e::r) (x::xs) (K+L):=λ at_ b c Q H g q h=>by
 rw[S.dEs] at g;rw[S.wpEs];exact t at_ b c _ _ (by omega) q λ i c2 j m=>n (at_+1) i c2 _ _ (by omega) j λ d c3 k p=>h d c3 k (by omega)
theorem Z6v {name:ByteArray}{l:List S.BE}{xs:List Int}{K L:Nat}{d x:Int}(z:S.Yls I dep lk env st l xs K)(p:xs.length<=4)(A:S.Tells I name st xs d x L)(hd:d<=dep):S.Yl I dep lk env st (S.eF name l) x (K+L+48):=λ at_ i c Q H g D h=>by
 have n:S.dE (S.eF name l)=S.dEs l:=by rw[S.eF,S.dE]
 rw[n] at g;rw[Zrz];refine z at_ i c _ _ g D λ m c2 t v=>?_
 refine⟨d,_,A m t,hd,λ ret o k u=>?_⟩;obtain⟨b,rfl,q,j,hk⟩:=u
 show Q (b.reg 4) b (c2+2*at_+xs.length+4+k)
 rw[q];exact h b _ j (by omega)
end
section
variable {I:S.Img}{dep lk:Int}{behind:Bool}{env:List Int}{st:S.Vw}{C:Nat}{Q:List Int->S.Vw->Nat->Prop}{R:S.BO->Nat->Prop}
theorem Zvv (h:∀b c,S.Sim st b->c<=C->Q env b c):S.WS I dep lk behind [] env st C Q R:=λ b c g d=>by
 rw[Z0t];exact h b c g d
theorem Zyz {r:List S.BS}(h:S.WS I dep lk behind r env st C Q R):S.WS I dep lk behind [] env st C (λ env st c=>S.wpSs I dep lk behind r env st c Q R) R:=Zvv λ b c g d=>h b c g d
theorem S.WS.more {l:List S.BS}{d:Nat}(h:S.WS I dep lk behind l env st d Q R)(hc:C<=d):S.WS I dep lk behind l env st C Q R:=λ b c g h2=>h b c g (by omega)
theorem Zds {n:Int}{e:S.BE}{r:List S.BS}{x:Int}{K:Nat}(k:S.Yl I dep lk env st e x K)(hd:S.dE e<=20)(h:S.WS I dep lk behind r (env.set n.toNat x) st (C+K+1) Q R):S.WS I dep lk behind (S.sAs n e::r) env st C Q R:=λ b c j hc=>by
 rw[Zba,Z0u];exact k 0 b c _ _ (by omega) j λ d c2 i g=>h d (c2+1) i (by omega)
theorem Zvw {n:Int}{e:S.BE}{r:List S.BS}{x:Int}{K:Nat}(k:S.Yl I dep lk env st e x K)(hd:S.dE e<=20)(h:S.WS I dep lk behind r env (st.set n x) (C+K+1) Q R):S.WS I dep lk behind (S.sSet n e::r) env st C Q R:=λ b c j hc=>by
 rw[Zba,Zvq];exact k 0 b c _ _ (by omega) j λ d c2 i g=>h (d.set n x) (c2+1) (i.set n x) (by omega)
theorem Zkm {a e:S.BE}{n:Int}{r:List S.BS}{y x p:Int}{j k:Nat}(t:S.Yl I dep lk env st a y j)(D:S.Yl I dep lk env st e x k)(q:S.dE a<=20)(hd:S.dE e<=19)(hp:u32m (y+n)=p)(g:p<I.size/\¬I.stk p/\¬I.code p)(h:S.WS I dep lk behind r env (st.sto p x) (C+j+k+1) Q R):S.WS I dep lk behind (S.sPut a n e::r) env st C Q R:=λ b c A hc=>by
 rw[Zba,Zls];refine t 0 b c _ _ (by omega) A λ i c2 m v=>D 1 i c2 _ _ (by omega) m λ d c3 u z=>?_
 rw[hp];exact⟨g.1,g.2.1,g.2.2,h (d.sto p x) (c3+1) (u.sto p x) (by omega)⟩
theorem Z78 {e:S.BE}{b l r:List S.BS}{x:Int}{K:Nat}(n:S.Yl I dep lk env st e x K)(hd:S.dE e<=20)(h0:x=0->S.WS I dep lk behind l env st (C+K+4) (λ env st c=>S.wpSs I dep lk behind r env st c Q R) R)
 (k:x≠0->S.WS I dep lk behind b env st (C+K+4) (λ env st c=>S.wpSs I dep lk behind r env st (c+3) Q R) R):S.WS I dep lk behind (S.sIf e b l::r) env st C Q R:=λ g c m hc=>by
 rw[Zba,Z0v];refine n 0 g c _ _ (by omega) m λ d c2 i j=>?_
 split
 .rename_i h;exact h0 h d _ i (by omega)
 .rename_i h;exact k h d _ i (by omega)
theorem Zcb {e:S.BE}{b r:List S.BS}{x:Int}{K:Nat}(g:S.Yl I dep lk env st e x K)(hd:S.dE e<=20)(h0:x=0->S.WS I dep lk behind r env st (C+K+4) Q R)
 (d:x≠0->S.WS I dep lk behind b env st (C+K+4) (λ env st c=>S.wpSs I dep lk behind r env st (c+3) Q R) R):S.WS I dep lk behind (S.sWhen e b::r) env st C Q R:=Z78 g hd (λ h=>Zyz (h0 h)) d
theorem Zy0 {e:S.BE}{b r:List S.BS}(hd:S.dE e<=20)(J:List Int->S.Vw->Nat->Nat->Prop){k0:Nat}(h0:J env st C k0)
 (q:∀env st C k,J env st C k->∃x K,S.Yl I dep lk env st e x K/\(x=0->S.WS I dep lk behind r env st (C+K+4) Q R) /\
  (x≠0->S.WS I dep lk behind b env st (C+K+4) (λ Zhs g c2=>∃k2,k2<k/\∃i p,S.Sim i g/\c2+3<=p/\J Zhs i p k2) R)):S.WS I dep lk behind (S.sWh e b::r) env st C Q R:=λ d c m n=>by
 rw[Zba,Z0w];refine⟨λ env d c k=>∃st C,S.Sim st d/\c<=C/\J env st C k,⟨k0,st,C,m,n,h0⟩,λ env d c k h=>?_⟩;obtain⟨st,C,m,n,z⟩:=h;obtain⟨x,K,A,v,t⟩:=q env st C k z;refine A 0 d c _ _ (by omega) m λ g c2 j u=>?_
 split
 .rename_i h;exact v h g _ j (by omega)
 .rename_i h;exact t h g _ j (by omega)
theorem Zhh {J:List Int->S.Vw->Nat->Nat->Prop}{k k2:Nat}(m:k2<k)(h:J env st (C+3) k2):S.WS I dep lk behind [] env st C (λ Zhs d c2=>∃k2,k2<k/\∃b g,S.Sim b d/\c2+3<=g/\J Zhs b g k2) R:=Zvv λ i c j hc=>⟨k2,m,st,C+3,j,by omega,h⟩
theorem Zqj {e:S.BE}{r:List S.BS}{x:Int}{K:Nat}(k:S.Yl I dep lk env st e x K)(hd:S.dE e<=20)(h:∀b c2,S.Sim st b->c2<=C+K+6->R (.ret (b.set 4 x)) c2):S.WS I dep lk behind (S.sVal e::r) env st C Q R:=λ d c j hc=>by
 rw[Zba,S.sVal,Zvp];exact k 0 d c _ _ (by omega) j λ b c2 i g=>h b _ i (by split <;> omega)
theorem Z5w {e:S.BE}{r:List S.BS}{x:Int}{K:Nat}(k:S.Yl I dep lk env st e x K)(hd:S.dE e<=20)(h:∀b c2,S.Sim st b->c2<=C+K+1->R (.halt x b) c2):S.WS I dep lk behind (S.sHlt e::r) env st C Q R:=λ d c j hc=>by
 rw[Zba,Z2c];exact k 0 d c _ _ (by omega) j λ b c2 i g=>h b _ i (by omega)
theorem Z79 {name:ByteArray}{l:List S.BE}{r:List S.BS}{xs:List Int}{K:Nat}{d:Int}{T:S.BO->Nat->Prop}(x:S.Yls I dep lk env st l xs K)(n:S.dEs l<=20)(m:xs.length<=4)(u:∀i,S.Sim st i->S.Real I name false (i.args xs) d (λ _ o k=>T o k))(hd:d<=dep)
 (h:∀o k,T o k->match o with
  | .ret g=>∀c,c<=C+K+k+14->R (.ret (g.set 4 (g.reg 4))) c
  | .halt code g=>∀c,c<=C+K+k+14->R (.halt code g) c
  | .left _ _=>False):S.WS I dep lk behind (S.sVal (S.eF name l)::r) env st C Q R:=λ i c v hc=>by
 rw[Zba,S.sVal,Zvp,Zrz];refine x 0 i c _ _ (by omega) v λ g c2 p t=>⟨d,_,u g p,hd,λ ret o k q=>?_⟩
 have j:=h o k q
 cases o with
 | ret st3=>exact j _ (by split <;> omega)
 | halt code st3=>exact j _ (by omega)
 | left a b=>exact j
theorem Z5x {name:ByteArray}{l:List S.BE}{r:List S.BS}{xs:List Int}{K:Nat}{d:Int}{T:S.BO->Nat->Prop}(x:S.Yls I dep lk env st l xs K)(n:S.dEs l<=20)(m:xs.length<=4)(u:∀i,S.Sim st i->S.Real I name false (i.args xs) d (λ _ o k=>T o k))(hd:d<=dep)
 (h:∀o k,T o k->match o with
  | .ret g=>S.WS I dep lk behind r env g (C+K+k+8) Q R
  | .halt code g=>∀c,c<=C+K+k+8->R (.halt code g) c
  | .left _ _=>False):S.WS I dep lk behind (S.sDo (S.eF name l)::r) env st C Q R:=λ i c v hc=>by
 rw[Zba,Z0x,Zrz];refine x 0 i c _ _ (by omega) v λ g c2 p t=>⟨d,_,u g p,hd,λ ret o k q=>?_⟩
 have j:=h o k q
 cases o with
 | ret st3=>exact j st3 _ (.refl st3) (by omega)
 | halt code st3=>exact j _ (by omega)
 | left a b=>exact j
theorem Zvx (g:I.Ok)(r:S.BR)(d:chkB r=0){i:Nat}(m:Seg I r.name i (bItems r)){dep:Int}(b:0<=dep)(st:S.Vw)(R:S.BO->Nat->Prop)
 (h:∀(lk:Int)(env:List Int),(env.length:Int)=r.locals->(∀k:Nat,(k:Int)<r.params->env.getD k 0=st.reg (4+k))->S.WS I dep lk r.behind r.body env st 8 (λ _ c j=>R (.ret c) (j+(if r.behind=true then 5 else 3))) R) :
 S.Real I r.name r.behind st (r.locals+15+dep) (λ _ o k=>R o k):=by
 have p4:=(Zc2 d).2.2.1;exact Zgc g r d m b st _ λ lk env _ _ n hp=>h lk env n hp st _ (.refl st) (by omega)
theorem Zhi (n:I.Ok)(r:S.BR)(j:chkB r=0){i:Nat}(q:Seg I r.name i (bItems r)){dep:Int}(c:0<=dep)(m:r.behind=false){st:S.Vw}{xs:List Int}(hp:r.params=xs.length){x:Int}{K:Nat}
 (p:∀(lk:Int)(env:List Int)(s1:S.Vw),(env.length:Int)=r.locals->(∀k:Nat,k<xs.length->env.getD k 0=xs.getD k 0)->S.Sim st s1->∀Q,S.WS I dep lk false r.body env s1 8 Q (S.RetN st x K)) :
 S.Tells I r.name st xs (r.locals+15+dep) x K:=λ b g=>by
 have p4:=(Zc2 j).2.2.1;have h:=Zvx n r j q c (b.args xs) (S.RetN st x K) λ lk env t d=>by
  rw[m];exact p lk env (b.args xs) t (λ k hk=>by
   rw[d k (by omega)]
   show(if (4:Int)<=4+(k:Int)/\4+(k:Int)<4+(xs.length:Int) then xs.getD (4+(k:Int)-4).toNat 0 else _)=_
   rw[if_pos (by omega),show(4+(k:Int)-4).toNat=k by omega]) (g.args (by omega)) _
 rw[m] at h;exact h
theorem Zkn {s0:S.Vw}{e:S.BE}{r:List S.BS}{x:Int}{K N:Nat}(g:S.Yl I dep lk env st e x K)(hd:S.dE e<=20)(d:S.Sim s0 st)(hN:C+K+6<=N):S.WS I dep lk behind (S.sVal e::r) env st C Q (S.RetN s0 x N):=Zqj g hd λ h c2 c b=>⟨_,rfl,rfl,(d.trans c).set4 _,by omega⟩
end
end
def ReadsP (w:World)(B:Nat)(A:Option Addr)(L:List (ByteArray×Int)):Prop :=
 0<L.length->∃b off,A=some ⟨b,off,none⟩/\b<B/\∀i p,L[i]?=some p->w.cell? ⟨b,off+i*2,none⟩=some (.string p.1)/\w.cell? ⟨b,off+i*2+1,none⟩=some (.int .i64 p.2)
theorem ReadsP.below {w w':World}{B:Nat}{A:Option Addr}{L:List (ByteArray×Int)}(h:ReadsP w B A L)(g:Below B w w'):ReadsP w' B A L:=λ hp=>by
 obtain⟨b,off,e,c,d⟩:=h hp;exact⟨b,off,e,c,λ i p j=>⟨(g.cell (p:=⟨b,off+i*2,none⟩) c).trans (d i p j).1,(g.cell (p:=⟨b,off+i*2+1,none⟩) c).trans (d i p j).2⟩⟩
theorem Zy1 (L:List (ByteArray×Int))(i:Nat)(p:ByteArray×Int)(h:L[i]?=some p):(L.flatMap Z7)[i*2]?=some (.string p.1)/\(L.flatMap Z7)[i*2+1]?=some (.int .i64 p.2):=by
 induction L generalizing i with
 | nil=>simp at h
 | cons q L ih =>
  cases i with
  | zero =>
   simp only[List.getElem?_cons_zero,Option.some.injEq] at h;subst h;simp[Z7]
  | succ i =>
   have c:=ih i (by simpa using h);have b:(i+1)*2=i*2+1+1:=by omega
   rw[Yaz,b]
   simpa[Z7] using c
theorem Zy2 (L:List (ByteArray×Int)):(L.flatMap Z7).length=L.length*2:=by
 induction L with
 | nil=>rfl
 | cons q L ih=>rw[Yaz,Yd,ih];simp[Z7];omega
theorem ReadsP.of_own {w:World}{base:Nat}{e:TypeId}{A:Option Addr}{m c n:Nat}{L:List (ByteArray×Int)}(h:w.ownsRow base e 2 (.slice A m c) n (L.flatMap Z7)):ReadsP w w.heap.size A L:=λ hp=>by
 have k:(L.flatMap Z7).length=n*2:=h.1;rw[Zy2] at k;obtain⟨g,rfl,q,d,t,b,_⟩:=Zan h (by omega);refine⟨g,0,rfl,d,λ i p j=>?_⟩;have hi:=(Yg.1 j).1;obtain⟨f1,f2⟩:=Zy1 L i p j;refine⟨?_,?_⟩
 .rw[Y2,b _ (by omega),f1]
 .rw[Y2,b _ (by omega),f2]
theorem ReadsP.at_ {w:World}{B:Nat}{A:Option Addr}{L:List (ByteArray×Int)}(h:ReadsP w B A L){k:Nat}(c:k<L.length) :
 ∃b off s n,A=some ⟨b,off,none⟩/\b<B/\L[k]?=some (s,n)/\w.cell? ⟨b,off+k*2,none⟩=some (.string s)/\w.cell? ⟨b,off+k*2+1,none⟩=some (.int .i64 n):=by
 obtain⟨b,off,e,i,d⟩:=h (by omega);obtain⟨j,g⟩:=d k L[k] (Ye c);exact⟨b,off,_,_,e,i,Ye c,j,g⟩
theorem Zvy {L:List (ByteArray×Int)}{k:Nat}{n s:ByteArray}{v:Int}(h:L[k]?=some (n,v)):findP (L.drop k) s=if n=s then some v else findP (L.drop (k+1)) s:=by
 have b:=(Yg.1 h).1;have c:L[k]=(n,v):=(Yg.1 h).2;rw[List.drop_eq_getElem_cons b,c,findP]
def Zy3 (L:List (ByteArray×Int))(s:ByteArray)(w:World)(e:Ending)(w':World):Prop :=
 e=.returned (.tuple #[.int .i64 ((findP L s).getD 0),.bool (findP L s).isSome])/\Below w.heap.size w w'
theorem Zvz (vw:Value)(Aw m:Option Addr)(nw cw cp:Nat)(L:List (ByteArray×Int))(s:ByteArray)(w:World)(q:ReadsP w w.heap.size m L)(hl:L.length<=1048576) :
 Calls prog 46 #[.agg #[.slice Aw nw cw,.slice m L.length cp],.string s] w (Zy3 L s w):=by
 go_enter func46,ntmps46
 go_wp2_with fail
 go_loopw [11] (λ i wr=>∃k:Nat,k<=L.length/\i=.int .i64 k/\findP L s=findP (L.drop k) s/\Below w.heap.size w wr) (λ i _=>L.length-(intOf i).toNat)
 case atStart=>exact⟨0,by omega,rfl,rfl,(Below.refl _ _).alloc (Yc _) _⟩
 case round =>
  obtain⟨k,hk,rfl,hf,c⟩:=hrel;have g:=Ya hf;have p:=c.size;clear hf;by_cases j:k<L.length
  .obtain⟨b,off,n,v,rfl,hb,hx,hc0,hc1⟩:=(q.below c).at_ j
   have hd:=Ya (Zvy (s:=s) hx);clear hx;have g0:b<wr.heap.size:=by omega
   by_cases d:n=s
   .have ds:=Zvd d
    have h:=Ya d;clear d;go_wp2_with fail
    go_ret2
    refine⟨?_,c.alloc (by omega) _⟩;rw[g.out,hd.out,if_pos h.out];rfl
   .have ds:=Zve d
    have h:=Ya d;clear d;go_wp2_with fail
    go_roundw
    case rel=>exact⟨k+1,by omega,by go_num,by rw[g.out,hd.out,if_neg h.out],c.alloc (by omega) _⟩
    case measure=>simp[intOf];omega
  .have hke:k=L.length:=by omega
   subst hke;go_wp2_with fail
   go_ret2
   refine⟨?_,c⟩;rw[g.out,List.drop_length];rfl
section
section
variable {P:Program}{B N:Nat}{w0:World}{H0:Zn}{s:S.St}{a:Act}{w:World}{H:Zn}{φ:Nat->Nat}{o:Oper}{e:S.Eff}{l:List Nat}
theorem Zi0 (z:Array Value)(c:0<z.size):∀n:Nat,((Array.range (n*z.size)).map (z[·%z.size]!)).toList=(Y6 n z.toList).flatten
 | 0=>by simp
 | n+1=>by
  have ih:=Zi0 z c n;rw[Array.toList_map,Array.toList_range] at ih⊢;rw[List.replicate_succ',List.flatten_append,<- ih,Yde,Nat.one_mul,List.range_add,List.map_append]
  congr 1
  rw[List.map_map]
  apply Yca
  .simp
  .intro i h1 h2
   simp only[List.length_map,List.length_range] at h1;have b:(n*z.size+i)%z.size=i:=by
    rw[Nat.mul_comm,Nat.mul_add_mod,Nat.mod_eq_of_lt h1]
   simp[b,h1]
theorem Zni {z:List S.AV}{b:List Value}(h:RepL H w z b):∀n:Nat,RepL H w (timesA z n) ((Y6 n b).flatten)
 | 0=>by rw[timesA,RepL];rfl
 | n+1=>by
  rw[timesA,List.replicate_succ,List.flatten_cons];exact RepL.append h (Zni h n)
theorem Zfu (z:List S.AV):∀n:Nat,(timesA z n).length=n*z.length
 | 0=>by rw[timesA];simp
 | n+1=>by rw[timesA,Yd,Zfu z n,Yde];omega
theorem Zgz {place:Nat->Option (Nat×Nat)}:∀{b:List (Nat×List S.AV)} {cs out:List S.AV},fillA place cs b=some out->out.length=cs.length
 | [],cs,out,h=>by simp[fillA] at h;subst h;rfl
 | (i,v)::r,cs,out,h=>by
  unfold fillA at h
  split at h
  .cases h
  .split at h
   .rename_i hh
    rw[Zgz h];simp only[Yd,Yaa,List.length_drop];omega
   .cases h
theorem Zcc {t:TypeId}{n:Nat}(h:sizeA P t=some n):∃i,P.info? t=some i/\i.size=n:=by
 unfold sizeA at h
 cases hi:P.info? t with
 | none=>rw[hi] at h;cases h
 | some i=>rw[hi] at h;exact⟨i,rfl,by simpa using h⟩
theorem Zv0 (h:Gam B N w0 H0 s a w H φ){d:Nat}(hd:d<N){n z:Nat}{cs:List S.AV}{m:Array Value}{t:TypeId}{c:Nat}{w':World}{drop:Option Nat}
 (hw:w'=w.alloc (.cells m t (0,0))\/w'=w.drew.alloc (.cells m t (0,0))) {xs:List Value} (hx:RepL H w cs xs) (O:m.toList.take cs.length=xs)
 (hn:n<=c) (hc:c<=maxLen) (hsz:m.size=c*z) (u:cs.length=n*z) (hz:0<z) :
 GamX B N w0 H0 ((⟨some (d,.row n cs,some (t,z)),drop,none⟩:S.Eff).apply s) (a.put (some d) (.slice (some ⟨w.heap.size,0,none⟩) n c)) w':=by
 have A:Below w.heap.size w w':=by
  rcases hw with rfl|rfl
  .exact(Below.refl _ _).alloc (Yc _) _
  .exact⟨rfl,rfl,rfl,by show w.heap.size<=(w.heap.push _).size;simp,λ k D=>heap_alloc_old w.drew _ D⟩
 have a0:w'.heap.size=w.heap.size+1:=by
  rcases hw with rfl|rfl <;> (show(w.heap.push _).size=_;simp)
 have p:w'.heap[w.heap.size]?=some (.cells m t (0,0)):=by
  rcases hw with rfl|rfl
  .exact heap_alloc_new w _
  .exact heap_alloc_new w.drew _
 obtain⟨E,V⟩:∃E:Zn,E=λ b=>if b=w.heap.size then some cs.length else H b:=⟨_,rfl⟩
 have h1:E w.heap.size=some cs.length:=by rw[V];simp
 have T:∀b,b≠w.heap.size->E b=H b:=λ b A=>by rw[V];simp[A]
 have L:Stay H w E w':=Zc4 h A λ b A=>T b (by omega)
 have q:w'.rangeAt w.heap.size 0 xs:=λ j v hj=>by
  rw[Yb p,Y2];have a2:j<cs.length:=by rw[<- RepL.length hx];exact(Yg.1 hj).1
  rw[<- O,Ybi,if_pos a2] at hj
  simpa using hj
 have X:RepC E w' cs w.heap.size 0:=Zil (RepL.stay L cs xs hx) q;refine⟨E,φ,h.next (.inr ⟨d,_,_,rfl,rfl,hd,.inr ?_,λ y hy=>⟨?_,λ M g a3 a4 G hg Z=>?_⟩⟩) (A.mono h.base) L (λ b a5=>T b (by have:=h.base;omega)) (λ b k D=>?_) (λ _ _=>rfl) (λ i M F hi=>?_) h.inj (λ M g _ _ G hg=>?_)⟩
 .rw[RepV]
  refine⟨_,c,rfl,λ h0=>Y4 (by rw[u,h0];simp),λ h0=>(by cases h0),.inr ⟨_,0,_,rfl,h1,by omega,X⟩⟩
 .cases hy
  exact⟨n,cs,rfl,.inr ⟨_,c,m,rfl,h.base,h1,p,hn,hc,hsz,u,hz⟩⟩
 .simp only[Yah,Option.some.injEq] at Z
  obtain⟨Y,J⟩:=Y7.1 G;obtain⟨x,_,K⟩:=h.tail M Y J;obtain⟨⟨k,D⟩,_⟩:=K.own hg;have:=(h.bnd g k D).lt;omega
 .by_cases hbe:b=w.heap.size
  .rw[hbe]
   exact⟨_,_,p⟩
  .rw[T b hbe] at D
   exact(h.bnd b k D).below A
 .have hi':s.hp i=some (M,F):=hi
  obtain⟨h3,h4,U,h5,h6⟩:=h.ent i M F hi';have a1:=Zkj h (i:=i) (by rw[hi'];rfl);exact⟨h3,(T _ (by omega)).trans h4,U,(A.block _ a1).trans h5,RepL.stay L F U h6⟩
 .obtain⟨Y,J⟩:=Y7.1 G
  obtain⟨x,_,K⟩:=h.tail M Y J;obtain⟨⟨k,D⟩,_⟩:=K.own hg;have:=(h.bnd g k D).lt;exact⟨A.block g this,T g (by omega)⟩
theorem Zr5 (c:Gam B N w0 H0 s a w H φ){t:TypeId}{len:Nat}{ps:Array (Nat×Operand)}(ho:o.op=.buildSlice t len ps)(he:((partsA ps.toList).bind λ vs=>effSlice P N o.dst t len vs).run s=some (e,l)):Zl6 P B N w0 H0 o s e a w:=by
 obtain⟨vs,_,_,h1,m⟩:=Zh _ _ he;have hp:=Zge c h1;rw[<- Zkl] at hp;unfold effSlice at m
 split at m
 .rename_i e' hu
  split at m
  .rename_i z n hz hn
   split at m
   .rename_i hh
    obtain⟨A,u,U,a3⟩:=hh;obtain⟨cs,_,_,Z,V⟩:=Zh _ _ m;obtain⟨i,O,hi,X,hc⟩:=Zhg hz;obtain⟨i',j,a0⟩:=Zcc hn;rw[hi] at j
    cases j
    subst a0;have G:=Zdk hc H w;have L:O.cells.size=i.size:=by rw[<- A,<- RepL.length G];simp
    have q:RepL H w (timesA z len) ((Array.range (len*i.size)).map (O.cells[·%O.cells.size]!)).toList:=by
     rw[<- L,Zi0 _ (by omega)];exact Zni G len
    have hf:=Z5 Z;obtain⟨r,hr,M⟩:=Zlq hp q hf;have h:cs.length=len*i.size:=by rw[Zgz hf,Zfu,A]
    have a4:0<len*i.size:=Nat.mul_pos U u;have E:(execOp a.eval o).run P w=.ok (.value (.slice (some ⟨w.heap.size,0,none⟩) len len)) (w.alloc (.cells r e')):=by
     unfold execOp;simp only[ho,Yai,run_buildSlice w t e' len _ r i O hu hi X (by omega) (by omega) hr,Y5,Yat]
    intro K Q hK;refine Zei E (hK _ _ ?_);rcases Zca V with⟨D,rfl⟩|⟨d,D,hd,rfl⟩
    .rw[D]
     have v:Below w.heap.size w (w.alloc (.cells r e')):=(Below.refl _ _).alloc (Yc _) _;exact⟨H,φ,c.next (.inl ⟨rfl,rfl⟩) (v.mono c.base) (Zc4 c v λ _ _=>rfl) (λ _ _=>rfl) (λ b k hk=>(c.bnd b k hk).below v) (λ _ _=>rfl)
      (λ i T p hi=>by
       have j:s.hp i=some (T,p):=hi;obtain⟨Z,V,J,D,h6⟩:=c.ent i T p j;exact⟨Z,V,J,(v.block _ (Zkj c (by rw[j];rfl))).trans D,RepL.stay (Zc4 c v λ _ _=>rfl) p J h6⟩) c.inj
      (λ T g _ _ Y hg=>by
       obtain⟨y',a1⟩:=Y7.1 Y;obtain⟨x,_,a2⟩:=c.tail T y' a1;obtain⟨⟨k,hk⟩,_⟩:=a2.own hg;exact⟨v.block g (c.bnd g k hk).lt,rfl⟩)⟩
    .rw[D]
     have F:r.size=len*i.size:=by
      have:=RepL.length M;simp only[Ybz] at this;rw[this,h]
     refine Zv0 c hd (.inl rfl) M ?_ (Yc _) (by simp only[maxLen];have:len<=len*i.size:=Nat.le_mul_of_pos_right _ u;omega) F h u;rw[List.take_of_length_le (by simp[F,h])]
   .simp[Rd.run] at m
  .simp[Rd.run] at m
 .simp[Rd.run] at m
theorem Zqk {t:TypeId}{b off q:Nat}{cs:List S.AV}{vs:List Value}{v:S.AV}(x:w.rangeAt b q vs)(k:RepL H w cs vs)(h:S.loadA P t cs off=some v) :
 ∃u,(Instr.loadAt t (.pointer (some ⟨b,q+off,none⟩))).run P w=.ok u w/\RepV H w v u:=by
 unfold S.loadA at h
 cases hu:P.underlying t with
 | none=>simp[isAggA,hu] at h
 | some d =>
  cases hd:d.isRow with
  | true =>
   simp only[isAggA,hu,Ycl,hd] at h
   cases hn:sizeA P t with
   | none=>rw[hn] at h;cases h
   | some n =>
    rw[hn] at h;simp only at h
    split at h
    .rename_i hle
     cases h
     obtain⟨i,hi,m⟩:=Zcc hn;have hl:=RepL.length k;refine⟨.agg ((vs.drop off).take n).toArray,run_loadAt_mid w b (q+off) t ((vs.drop off).take n) d (λ j u g=>?_) hu hd ?_,?_⟩
     .rw[Ybi] at g
      split at g
      .rw[List.getElem?_drop] at g
       have:=x (off+j) u g;rw[<- Nat.add_assoc] at this;exact this
      .cases g
     .rw[hi]
      simp only[Ycl,m,Yaa,List.length_drop]
      congr 1
      omega
     .rw[RepV]
      exact⟨_,rfl,RepL.take n (RepL.drop off k)⟩
    .cases h
  | false =>
   simp only[isAggA,hu,Ycl,hd] at h;obtain⟨u,p,_,A⟩:=RepL.at_ k h;refine⟨u,?_,A⟩;have c:(isAgg t).run P w=.ok false w:=by
    unfold isAgg;rw[Yai,run_underlying hu w]
    cases d <;> simp_all
   have z:=x off u p;simp only[Instr.loadAt,Instr.sureAddr,Yai,Yat,Y5,loadVar,c,Ybq,if_false,run_load,z]
theorem Zg0 {b:Nat}{vs:List Value}{t:TypeId}{fr:Nat×Nat}(h:w.heap[b]?=some (.cells vs.toArray t fr)):w.rangeAt b 0 vs:=λ j v c=>by
 rw[Yb h,Y2]
 simpa using c
theorem Zv1 (F:Gam B N w0 H0 s a w H φ){t:TypeId}{x:Operand}(M:o.op=.load t x)(K:((S.evalA x).bind λ v=>effLoad P N o.dst t v).run s=some (e,l)):Zl6 P B N w0 H0 o s e a w:=by
 obtain⟨v,_,_,T,c⟩:=Zh _ _ K;have d:=Zm F T;have A:∀(b off q:Nat)(cs:List S.AV)(vs:List Value)(l:List Nat),a.eval x=.pointer (some ⟨b,q+off,none⟩)->w.rangeAt b q vs->RepL H w cs vs->((Rd.ofOpt (S.loadA P t cs off)).bind λ v=>leave N o.dst v none none).run s=some (e,l)->Zl6 P B N w0 H0 o s e a w:=λ b off q cs vs l m V O h=>by
  obtain⟨u,_,_,n,g⟩:=Zh _ _ h;obtain⟨r,j,D⟩:=Zqk V O (Z5 n);refine Z0 F g (.inr D) ?_;unfold execOp;simp only[M,m,Yai,j,Y5,Yat]
 unfold effLoad at c
 split at c
 .rename_i i off
  simp only[Rd.run] at c;rcases d with⟨U,p,hi,E,m⟩|d
  .cases hi
   obtain⟨⟨L,cs⟩,z⟩:=Y7.1 E;rw[z] at c
   split at c
   .rename_i e' l' n
    simp only[Option.some.injEq,Prod.mk.injEq] at c;obtain⟨rfl,_⟩:=c;obtain⟨_,_,vs,g,G⟩:=F.ent i L cs z;exact A (φ i) off 0 cs vs _ (by rw[Y2];exact m) (Zg0 g) G n
   .cases c
  .rw[RepV] at d
   exact d.elim
 .rename_i cs off
  rcases d with⟨U,p,hi,_⟩|d
  .cases hi
  .rw[RepV] at d
   obtain⟨b,q,k,m,_,_,J⟩:=d;obtain⟨vs,n,g⟩:=Zc0 J;exact A b off q cs vs _ m g n c
 .simp[Rd.run] at c
theorem Zr6 (A:Gam B N w0 H0 s a w H φ){t:TypeId}{x y:Operand}(ho:o.op=.store t x y)(he:((S.evalA x).bind λ v=>(S.evalA y).bind λ u=>(Rd.ofOpt u.cells).bind λ cs=>effStore P o.dst t cs v).run s=some (e,l)):Zl6 P B N w0 H0 o s e a w:=by
 obtain⟨v,_,_,h1,h2⟩:=Zh _ _ he;obtain⟨u,_,_,h3,h4⟩:=Zh _ _ h2;obtain⟨ds,_,_,h5,z⟩:=Zh _ _ h4;have Z:=Zm A h1;have hc:=Z5 h5;obtain⟨m,a5,J⟩:=Zik (Zit (Zm A h3) hc) hc;unfold effStore at z
 split at z
 .rename_i i off
  simp only[Rd.run] at z;rcases Z with⟨i',a7,hi,F,hx⟩|Z
  .cases hi
   obtain⟨⟨Y,cs⟩,V⟩:=Y7.1 F;rw[V] at z
   split at z
   .rename_i e' l' h7
    simp only[Option.some.injEq,Prod.mk.injEq] at z;obtain⟨rfl,_⟩:=z;simp only at h7
    split at h7
    .rename_i hh
     obtain⟨O,hsz,b0⟩:=hh;simp only[Rd.run,Option.some.injEq,Prod.mk.injEq] at h7;obtain⟨rfl,_⟩:=h7;obtain⟨hB,p,vs,h8,h9⟩:=A.ent i Y cs V;have a8:=RepL.length h9;have M:=RepL.length J;obtain⟨a9,hi,a4⟩:=Zcc hsz;have X:=run_storeCells_at P (φ i) off Y m 0 vs.toArray w h8 (by simp;omega) (RepL.one J);simp only[Ybe] at X;have L:(execOp a.eval o).run P w=.ok .skip (w.setRow (φ i) (vs.take off++m++vs.drop (off+m.length)).toArray):=by
      unfold execOp;simp only[ho,hx,Instr.storeAt,Instr.sureAddr,Yai,Yat,Y5,storeVar,sizeOf,typeInfo,run_program,hi];rw[a5];simp only[a4,Yc0,M,ne_eq,not_true_eq_false,if_false,X,Y5]
     have d:∀k,k≠φ i->(w.setRow (φ i) (vs.take off++m++vs.drop (off+m.length)).toArray).heap[k]?=w.heap[k]?:=λ k D=>setRow_other w _ k _ D
     have E:=setRow_heap w (φ i) vs.toArray (vs.take off++m++vs.drop (off+m.length)).toArray Y (0,0) h8;have G:(w.setRow (φ i) (vs.take off++m++vs.drop (off+m.length)).toArray).heap.size=w.heap.size:=by simp[World.setRow]
     have T:Below B w (w.setRow (φ i) (vs.take off++m++vs.drop (off+m.length)).toArray):=⟨rfl,rfl,rfl,by rw[G];exact Yc _,λ k D=>d k (by omega)⟩
     have n:Stay H w H (w.setRow (φ i) (vs.take off++m++vs.drop (off+m.length)).toArray):=λ b k T=>⟨k,T,Yc _,λ q _=>World.cell?_of_block (d b (λ e=>by rw[e,p] at T;cases T))⟩
     intro K Q hK;refine Zr0 L (hK _ _ ?_);rw[O];refine⟨H,φ,A.next (.inl ⟨rfl,rfl⟩) T n (λ _ _=>rfl) (λ b k D=>(A.bnd b k D).of (d b λ e=>by rw[e,p] at D;cases D)) (λ _ _=>rfl) (λ j t2 a2 h=>?_) (λ j j' h a1 a0=>?_) (λ t2 g _ _ U hg=>?_)⟩
     .unfold S.Eff.apply at h
      simp only at h;by_cases c:j=i
      .subst c
       rw[if_pos rfl] at h
       cases h
       refine⟨hB,p,_,E,?_⟩;have:=RepL.append (RepL.append (RepL.take off h9) J) (RepL.drop (off+ds.length) h9);rw[<- M] at this⊢;exact RepL.stay n _ _ this
      .rw[if_neg c] at h
       obtain⟨q1,q2,a3,q3,q4⟩:=A.ent j t2 a2 h;refine⟨q1,q2,a3,(d _ λ e=>c (A.inj j i (by rw[h];rfl) F e)).trans q3,RepL.stay n _ _ q4⟩
     .have hlive:∀j,(((⟨none,none,some (i,(Y,cs.take off++ds++cs.drop (off+ds.length)))⟩:S.Eff).apply s).hp j).isSome=true->(s.hp j).isSome=true:=λ j h=>by
       unfold S.Eff.apply at h;simp only at h;by_cases c:j=i
       .rw[c];exact F
       .rw[if_neg c] at h;exact h
      exact A.inj j j' (hlive j h) (hlive j' a1) a0
     .obtain⟨y',hy'⟩:=Y7.1 U
      obtain⟨x2,_,a6⟩:=A.tail t2 y' hy';obtain⟨⟨k,D⟩,_⟩:=a6.own hg;exact⟨d g (λ e=>by rw[e,p] at D;cases D),rfl⟩
    .simp[Rd.run] at h7
   .cases z
  .rw[RepV] at Z
   exact Z.elim
 .simp[Rd.run] at z
end
end
section
def AFn (P:Program)(W:World->Prop)(f:FuncId)(xs:List S.AV)(r:S.AV)(y:S.Tail):Prop :=
 ∀(H:Zn)(w:World)(vs:List Value),(∀b k,H b=some k->Bk w b)->W w->RepT H w xs vs->Calls P f vs.toArray w λ e w' =>
  ∃v H',e=.returned v/\Below w.heap.size w w'/\(∀b,b<w.heap.size->H' b=H b)/\(∀b k,H' b=some k->Bk w' b)/\RepV H' w' r v/\∀z,y=some z->TailOk H' w' w.heap.size z r v
section
variable {P:Program}{B N:Nat}{w0:World}{H0:Zn}{s:S.St}{a:Act}{w:World}{H:Zn}{φ:Nat->Nat}{o:Oper}{e:S.Eff}{l:List Nat}
theorem Zr7 (t O e:TypeId)(i:TypeInfo)(z:Value)(J:P.underlying t=some (.slice e))(hi:P.info? e=some i)(hz:i.zero=some z)(a0:z.cells.size=i.size)(hsz:0<i.size)
 (base:Nat) (v:Value) (n:Nat) (xs:List Value) (h:w.ownsRow base e i.size v n xs) (A:Option Addr) (m c:Nat) (b:List Value) (G:b.length=m*i.size) (hA:A=none->m=0)
 (E:∀D,A=some D->∀j u,b[j]?=some u->w.cell? (D.add j)=some u) (h1:∀u∈b,u.oneCell'=true) (a3:n+m<=1000000) (k:(n+m)*i.bytes<=140737488355328) :
 ∃V w',(Builtin.append_ #[t,t] O #[v,.slice A m c]).run P w=.ok V w' /\
  ((m=0/\V=v/\w'=w)\/(∃g cap p d,v=.slice (some ⟨g,0,none⟩) n cap/\V=.slice (some ⟨g,0,none⟩) (n+m) cap/\w.heap[g]?=some (.cells p e (0,0))/\n+m<=cap/\cap<=maxLen/\w'=w.setRow g d/\d.size=cap*i.size/\d.toList.take ((n+m)*i.size)=xs++b/\base<=g)\/(∃cap d,V=.slice (some ⟨w.heap.size,0,none⟩) (n+m) cap/\n+m<=cap/\cap<=maxLen/\w'=w.drew.alloc (.cells d e (0,0))/\d.size=cap*i.size/\d.toList.take ((n+m)*i.size)=xs++b)):=by
 have q:(xs++b).length=(n+m)*i.size:=by rw[Yd,h.1,G,Yde]
 rcases A with _|D
 .have h0:=hA rfl
  subst h0;exact⟨v,w,Zb4 w base t _ e i i.size J hi v n xs h c,.inl ⟨rfl,rfl,rfl⟩⟩
 have Y:=E D rfl;have grown:∀(old:Nat),n+m<=grownCap w (n+m) old e/\grownCap w (n+m) old e<=maxLen/\(xs.toArray++b.toArray++Builtin.zeroCells z.cells (grownCap w (n+m) old e-(n+m))).size=grownCap w (n+m) old e*i.size /\
  (xs.toArray++b.toArray++Builtin.zeroCells z.cells (grownCap w (n+m) old e-(n+m))).toList.take ((n+m)*i.size)=xs++b:=λ old=>by
  have Z:=grownCap_ge w (n+m) old e;have x:grownCap w (n+m) old e<=maxLen:=grownCap_le_maxLen w (n+m) old e (by simp only[maxLen];omega);refine⟨Z,x,?_,?_⟩
  .simp only[Array.size_append,Yc0,size_zeroCells,a0,h.1,G,<- Yde]
   congr 1
   omega
  .simp only[Array.toList_append,Yp]
   rw[<- Yp,<- q];exact List.take_left
 rcases h.2 with⟨rfl,rfl⟩|⟨g,cap,p,rfl,X,hg,a2,x,a1,F⟩
 .have hx:xs=[]:=Y4 (by simpa using h.1)
  subst hx;by_cases hm:m=0
  .subst hm
   refine⟨.slice none 0 0,w,?_,.inl ⟨rfl,rfl,rfl⟩⟩;simp[Builtin.append_,run_underlying J,sizeOf,typeInfo,hi,Builtin.lenOf,Builtin.firstCells,loadCells,loadCellsFrom]
  .have K:=run_append_nil (P:=P) w t O e i z J hi hz D m c b G Y (by omega) (by omega) (by have hb:=k;simp only[Y2] at hb;omega)
   obtain⟨L,M,T,U⟩:=grown 0;simp only[Y2,List.nil_append,Array.empty_append] at L M T U⊢;exact⟨_,_,K,.inr (.inr ⟨_,_,rfl,L,M,rfl,T,U⟩)⟩
 .by_cases hroom:n+m<=cap
  .have hfit:n*i.size+b.length<=p.size:=by rw[G,a1,<- Yde];exact Nat.mul_le_mul_right _ hroom
   have K:=run_append_room (P:=P) w t O e i J hi g n cap p hg D m c b G Y h1 hroom hfit;refine⟨_,_,K,.inr (.inl ⟨g,cap,p,_,rfl,rfl,hg,hroom,x,rfl,?_,?_,X⟩)⟩
   .simp only[Yc0,Yd,Yaa,List.length_drop,Ybz]
    omega
   .rw[F,<- q]
    exact List.take_left
  .have holds:∀j u,xs[j]?=some u->w.cell? ((⟨g,0,none⟩:Addr).add j)=some u:=h.cells (g:=g) rfl
   have K:=run_append_grow (P:=P) w t O e i z J hi hz ⟨g,0,none⟩ n cap xs h.1 holds D m c b G Y (by omega) (by omega) (growslice_fits (by omega) k);obtain⟨L,M,T,U⟩:=grown cap;exact⟨_,_,K,.inr (.inr ⟨_,_,rfl,L,M,rfl,T,U⟩)⟩
theorem Zlu {y:TypeId×Nat}{n:Nat}{cs:List S.AV}{v:Value}{t:TypeId}{z:Nat}(h:TailOk H w B y (.row n cs) v)(F:RepV H w (.row n cs) v)(p:(y.1=t/\y.2=z)\/y.2=0)(D:cs.length=n*z):∃xs,RepL H w cs xs/\w.ownsRow B t z v n xs/\∀g,v.ownBlock=some g->H g=some cs.length:=by
 obtain⟨n',K,e,X⟩:=h
 cases e
 rw[RepV] at F;obtain⟨A,c,J,h0,_,M⟩:=F;rcases X with⟨rfl,rfl⟩|⟨g,cap,d,rfl,U,L,hg,m,q,hsz,G,hz⟩
 .have:=h0 rfl
  subst this;exact⟨[],by rw[RepL],World.ownsRow_nil w B t z,λ g hg=>by simp[Yah] at hg⟩
 .obtain⟨rfl,rfl⟩:y.1=t/\y.2=z:=by
   rcases p with p|p
   .exact p
   .omega
  have T:cs.length<=d.size:=by rw[G,hsz];exact Nat.mul_le_mul_right _ m
  refine⟨d.toList.take cs.length,?_,⟨?_,.inr ⟨g,cap,d,rfl,U,hg,m,q,hsz,by rw[G]⟩⟩,λ g' i=>?_⟩
  .rcases M with rfl|⟨b,off,k,hA,hb,_,hcc⟩
   .rw[List.length_nil,List.take_zero,RepL]
   .cases J
    cases hA
    obtain⟨vs,E,O⟩:=Zc0 hcc;have V:vs=d.toList.take cs.length:=by
     have x:=RepL.length E
     apply Yca
     .rw[x,Yaa];simp;omega
     .intro j hj hj2
      have:=O j vs[j] (Ye hj);rw[Yb hg,Y2] at this;rw[List.getElem_take];have u:j<d.size:=by omega
      rw[Ydk u] at this
      simpa using (Option.some.inj this).symm
    rw[<- V];exact E
  .rw[Yaa]
   simp;omega
  .simp only[Yah,Option.some.injEq] at i
   subst i;exact L
theorem Zpc (L:Gam B N w0 H0 s a w H φ){t:TypeId}{sl:Nat}{x:Operand}{c:Call}(ho:o.op=.call c)(c5:c.callee=.builtin .append)(b1:c.args.toList=[.tmp sl,x])(c7:c.argTypes.toList=[t,t])
 (he:((S.evalA x).bind λ v=>effAppend P N o.dst t sl v).run s=some (e,l)):Zl6 P B N w0 H0 o s e a w:=by
 have ha:c.args=#[.tmp sl,x]:=by rw[<- Ybw (xs:=c.args),b1]
 have d2:c.argTypes=#[t,t]:=by rw[<- Ybw (xs:=c.argTypes),c7]
 obtain⟨v,_,_,h1,E⟩:=Zh _ _ he;have hv:=Zm L h1;unfold effAppend at E
 split at E
 .rename_i e' hu
  split at E
  .rename_i i hi
   split at E
   .rename_i z hz
    simp only[Rd.run] at E
    cases hsl:s.sl sl with
    | none=>rw[hsl] at E;cases htl:s.tl sl <;> (rw[htl] at E;simp[Rd.run] at E)
    | some old =>
     cases htl:s.tl sl with
     | none=>rw[hsl,htl] at E;simp[Rd.run] at E
     | some y =>
      rw[hsl,htl] at E
      cases old with
      | row n cs =>
       cases v with
       | row m ds =>
        simp only at E
        split at E
        .rename_i e1 l1 h3
         simp only[Option.some.injEq,Prod.mk.injEq] at E;obtain⟨rfl,_⟩:=E
         split at h3
         .rename_i e2 l2 h4
          simp only[Option.some.injEq,Prod.mk.injEq] at h3;obtain⟨rfl,_⟩:=h3
          split at h4
          .rename_i hh
           obtain⟨hy,e4,hsz,b2,a9,e5,d6,a7⟩:=hh;have c4:RepV H w (.row m ds) (a.eval x):=by
            rcases hv with⟨_,_,hq,_⟩|hv
            .cases hq
            .exact hv
           rw[RepV] at c4;obtain⟨A,cp,hx,f0,e0,d9⟩:=c4;have a8:RepV H w (.row n cs) (a.tmps.getD sl undef):=by
            rcases L.slot sl _ hsl with⟨_,_,hq,_⟩|hv
            .cases hq
            .exact hv
           obtain⟨x',c3,c0⟩:=L.tail sl y htl;rw[hsl] at c3
           cases c3
           obtain⟨xs,c2,a6,c9⟩:=Zlu c0 a8 (t:=e') (z:=i.size) (by obtain⟨y1,y2⟩:=y;exact hy) b2;obtain⟨D,O,a3⟩:∃D,RepL H w ds D/\∀ad,A=some ad->∀j u,D[j]?=some u->w.cell? (ad.add j)=some u:=by
            rcases d9 with rfl|⟨b,off,k,rfl,_,_,d0⟩
            .exact⟨[],by rw[RepL],λ ad _ j u hj=>by simp at hj⟩
            .obtain⟨vs,T,U⟩:=Zc0 d0
             refine⟨vs,T,λ ad d4 j u hj=>?_⟩
             cases d4
             rw[Addr.add_mid];exact U j u hj
           have c8:=RepL.length O;obtain⟨v',w',b9,b3⟩:=Zr7 (P:=P) t o.type e' i z hu hi hz e4 hsz B _ n xs a6 A m cp D (by rw[c8,a9]) e0 a3 (RepL.one O) e5 d6;have d1:(execOp a.eval o).run P w=.ok (.value v') w':=by
            have e3:a.eval (.tmp sl)=a.tmps.getD sl undef:=rfl;unfold execOp;simp only[ho,resolve,c5,ha,d2,invoke,builtin,Yai,Yat,Y5,List.map_toArray,List.map_cons,List.map_nil,hx,e3,b9]
           intro K Q hK;refine Zei d1 (hK _ _ ?_);have a5:=RepL.append c2 O;have F:(cs++ds).length=(n+m)*i.size:=by rw[Yd,b2,a9,Yde]
           rcases Zca h4 with⟨h5,rfl⟩|⟨d,h5,hd,rfl⟩
           .exfalso
            rw[h5] at a7
            cases a7
           .rw[h5]
            rcases b3 with⟨rfl,rfl,rfl⟩|⟨g,cap,a0,p,a1,rfl,hg,b0,b4,rfl,V,J,d3⟩|⟨cap,p,rfl,b0,b4,rfl,V,J⟩
            .have hds:ds=[]:=Y4 (by rw[a9];simp)
             subst hds;rw[Ybe,List.append_nil];refine⟨H,φ,L.next (.inr ⟨d,_,_,rfl,rfl,hd,.inr a8,λ q hq=>⟨?_,λ t' g M Y X hg a4=>?_⟩⟩) (Below.refl _ _) (Stay.refl _ _) (λ _ _=>rfl) L.bnd (λ _ _=>rfl) L.ent L.inj (λ _ _ _ _ _ _=>⟨rfl,rfl⟩)⟩
             .cases hq
              obtain⟨n',f2,Z,hh⟩:=c0
              cases Z
              rcases hh with⟨T,U⟩|⟨g,cap,a0,T,U,q3,q4,q5,q6,q7,q8,q9⟩
              .exact⟨n,cs,rfl,.inl ⟨T,U⟩⟩
              .obtain⟨y1,y2⟩:=y
               obtain⟨rfl,rfl⟩:y1=e'/\y2=i.size:=by
                rcases hy with hy|hy
                .exact hy
                .simp only at q9;omega
               exact⟨n,cs,rfl,.inr ⟨g,cap,a0,T,U,q3,q4,q5,q6,q7,q8,q9⟩⟩
             .exact L.tinj t' sl (λ Z=>Y (by rw[Z])) X (by rw[htl];rfl) g hg a4
            .have hHg':=c9 g (by rw[a1];rfl)
             have b8:a0.toList.take (n*i.size)=xs:=by
              rcases a6.2 with⟨T,_⟩|⟨g2,e7,e6,T,_,U,_,_,_,q3⟩
              .rw[a1] at T;cases T
              .rw[a1] at T
               cases T
               rw[hg] at U
               cases U
               exact q3
             have f3:=RepL.length c2;have h:∀k,k≠g->(w.setRow g p).heap[k]?=w.heap[k]?:=λ k hk=>setRow_other w _ k _ hk
             have G:=setRow_heap w g a0 p e' (0,0) hg;have b5:(w.setRow g p).heap.size=w.heap.size:=by simp[World.setRow]
             have f1:g<w.heap.size:=(Y3.1 hg).1;have hb:Below B w (w.setRow g p):=⟨rfl,rfl,rfl,by rw[b5];exact Yc _,λ k hk=>h k (by omega)⟩
             obtain⟨H',c6⟩:∃H':Zn,H'=λ b=>if b=g then some (cs++ds).length else H b:=⟨_,rfl⟩
             have T:H' g=some (cs++ds).length:=by rw[c6];simp
             have U:∀b,b≠g->H' b=H b:=λ b hb=>by rw[c6];simp[hb]
             have b7:Stay H w H' (w.setRow g p):=λ b k hk=>by
              by_cases c:b=g
              .subst c
               rw[hHg'] at hk
               cases hk
               refine⟨_,T,by rw[Yd];omega,λ q hq=>?_⟩;rw[Yb G,Yb hg];have e1:p[q]?=(xs++D)[q]?:=by
                rw[<- J,Ybi,if_pos (by rw[<- F,Yd];omega)];simp
               have e2:a0[q]?=xs[q]?:=by
                rw[<- b8,Ybi,if_pos (by rw[<- b2];omega)];simp
               rw[e1,e2,List.getElem?_append_left (by omega)]
              .exact⟨k,(U b c).trans hk,Yc _,λ q _=>World.cell?_of_block (h b c)⟩
             have a2:(w.setRow g p).rangeAt g 0 (xs++D):=λ j u hj=>by
              rw[Yb G,Y2];have d7:j<(xs++D).length:=(Yg.1 hj).1;have d8:j<(n+m)*i.size:=by
               rw[<- F,Yd];rw[Yd] at d7;omega
              rw[<- J,Ybi,if_pos d8] at hj
              simpa using hj
             refine⟨H',φ,L.next (.inr ⟨d,_,_,rfl,rfl,hd,.inr ?_,λ q hq=>⟨?_,λ t' g' M Y X b6 a4=>?_⟩⟩) hb b7 (λ b e8=>U b (by omega)) (λ b k hk=>?_) (λ _ _=>rfl) (λ j t2 c1 hj=>?_) L.inj (λ t' g' _ Y X b6=>?_)⟩
             .rw[RepV]
              exact⟨_,cap,rfl,λ h0=>Y4 (by rw[F,h0];simp),λ h0=>(by cases h0),.inr ⟨g,0,_,rfl,T,by omega,Zil (RepL.stay b7 _ _ a5) a2⟩⟩
             .cases hq
              exact⟨n+m,cs++ds,rfl,.inr ⟨g,cap,p,rfl,d3,T,G,b0,b4,V,F,hsz⟩⟩
             .simp only[Yah,Option.some.injEq] at a4
              subst a4;exact L.tinj t' sl (λ Z=>Y (by rw[Z])) X (by rw[htl];rfl) g b6 (by rw[a1];rfl)
             .by_cases c:b=g
              .rw[c];exact⟨_,_,G⟩
              .rw[U b c] at hk
               exact(L.bnd b k hk).of (h b c)
             .have hj':s.hp j=some (t2,c1):=hj
              obtain⟨p1,p2,d5,p3,p4⟩:=L.ent j t2 c1 hj';have M:φ j≠g:=λ Z=>by rw[Z,hHg'] at p2;cases p2
              exact⟨p1,(U _ M).trans p2,d5,(h _ M).trans p3,RepL.stay b7 _ _ p4⟩
             .have M:g'≠g:=λ Z=>by
               subst Z;exact L.tinj t' sl (λ Z=>Y (by rw[Z])) X (by rw[htl];rfl) g' b6 (by rw[a1];rfl)
              exact⟨h g' M,U g' M⟩
            .exact Zv0 L hd (.inr rfl) a5 (by rw[F];exact J) b0 b4 V F hsz
          .simp[Rd.run] at h4
         .cases h3
        .cases E
       | _=>simp[Rd.run] at E
      | _=>cases v <;> simp[Rd.run] at E
   .simp[Rd.run] at E
  .simp[Rd.run] at E
 .simp[Rd.run] at E
theorem Zv2 (m:Gam B N w0 H0 s a w H φ){W:World->Prop}(hW:W w){call:FuncId->List S.AV->Option (S.AV×S.Tail)}(hcall:∀f xs r y,call f xs=some (r,y)->AFn P W f xs r y){c:Call}(ho:o.op=.call c){f:Operand}(a0:c.callee=.value f)
 (he:((S.evalA f).bind λ g=>(evalsA c.args.toList).bind λ vs=>effCall P N call o.dst g vs).run s=some (e,l)):Zl6 P B N w0 H0 o s e a w:=by
 obtain⟨g,_,_,h1,h2⟩:=Zh _ _ he;obtain⟨vs,_,_,h3,F⟩:=Zh _ _ h2;have hg:=Zm m h1;unfold effCall at F
 split at F
 .rename_i k
  split at F
  .rename_i J
   obtain⟨p,L⟩:=J
   split at F
   .rename_i r y hr
    have a5:a.eval f=.func (.func k) #[] #[]:=by
     rcases hg with⟨_,_,hq,_⟩|hg
     .cases hq
     .rw[RepV] at hg;exact hg
    have G:=Zki m h3 L;obtain⟨fn, U, O, M⟩ : ∃fn, P.funcs[k]? = some fn ∧ fn.body.isNone = false ∧ (fn.name == "runtime.NumGoroutine") = false := by
     unfold okFn at p
     split at p
     .rename_i fn U
      simp only[Yq,Bool.not_eq_true'] at p;exact⟨fn,U,by have:=p.1;cases T:fn.body <;> simp_all,p.2⟩
     .cases p
    have a4:(execOp a.eval o).run P w=.ok (.enter k (c.args.toList.map a.eval).toArray) w:=by
     unfold execOp;simp only[ho,resolve,a0,a5,Deferred.ofValue,Yai,Yat,Y5,invoke,callFunc,run_program,U,M,O,Ybq,if_false]
     congr 2
     simp;rw[<- Array.toList_map,Ybw]
    intro K Q hK;unfold Oper.wp;rw[a4];refine Calls.mono (hcall k vs r y hr H w _ m.bnd hW G) ?_;rintro e' w' ⟨v,Y,rfl,T,X,D,a2,t⟩;refine hK _ _ ?_;have V:Stay H w Y w':=Zc4 m T X;have E:∀i h q,s.hp i=some (h,q)->B<=φ i/\Y (φ i)=none/\∃vs:List Value,w'.heap[φ i]?=some (.cells vs.toArray h (0,0))/\RepL Y w' q vs:=λ i h q hi=>by
     obtain⟨p1,p2,a6,p3,p4⟩:=m.ent i h q hi;have a1:=Zkj m (i:=i) (by rw[hi];rfl);exact⟨p1,(X _ a1).trans p2,a6,(T.block _ a1).trans p3,RepL.stay V _ _ p4⟩
    have u:∀h g,(s.tl h).isSome=true->(a.tmps.getD h undef).ownBlock=some g->g<w.heap.size:=λ h g j hg=>by
     obtain⟨y',a8⟩:=Y7.1 j;obtain⟨x,_,p⟩:=m.tail h y' a8;obtain⟨⟨k,hk⟩,_⟩:=p.own hg;exact(m.bnd g k hk).lt
    rcases Zca F with⟨h5,rfl⟩|⟨d,h5,hd,rfl⟩
    .rw[h5]
     exact⟨Y,φ,m.next (.inl ⟨rfl,rfl⟩) (T.mono m.base) V (λ b a3=>X b (by have:=m.base;omega)) D (λ _ _=>rfl) (λ i h q hi=>E i h q hi) m.inj (λ h g _ _ j hg=>⟨T.block g (u h g j hg),X g (u h g j hg)⟩)⟩
    .rw[h5]
     refine⟨Y,φ,m.next (.inr ⟨d,_,_,rfl,rfl,hd,.inr a2,λ z hz=>⟨?_,λ h g b0 a9 j a7 A=>?_⟩⟩) (T.mono m.base) V (λ b a3=>X b (by have:=m.base;omega)) D (λ _ _=>rfl) (λ i h q hi=>E i h q hi) m.inj (λ h g _ _ j hg=>⟨T.block g (u h g j hg),X g (u h g j hg)⟩)⟩
     .obtain⟨n,cs,e9,J⟩:=t z hz
      refine⟨n,cs,e9,?_⟩;rcases J with J|⟨g,cap,Z,q1,q2,q3⟩
      .exact .inl J
      .exact .inr ⟨g,cap,Z,q1,Nat.le_trans m.base q2,q3⟩
     .obtain⟨n,cs,e9,J⟩:=t z hz
      rcases J with⟨q1,_⟩|⟨g',cap,Z,q1,q2,q3⟩
      .rw[q1] at A;simp[Yah] at A
      .rw[q1] at A
       simp only[Yah,Option.some.injEq] at A;subst A;have:=u h g' j a7;omega
   .simp[Rd.run] at F
  .simp[Rd.run] at F
 .simp[Rd.run] at F
theorem Zi1 (j:Gam B N w0 H0 s a w H φ){m:Sem Value}(b:execOp a.eval o=(do pure (.value (← m))))(i:((Rd.ofOpt (pureRun P m)).bind λ r=>(Rd.ofOpt (constA r)).bind λ z=>leave N o.dst z none none).run s=some (e,l)):Zl6 P B N w0 H0 o s e a w:=by
 obtain⟨r,_,_,h,g⟩:=Zh _ _ i;obtain⟨z,_,_,c,d⟩:=Zh _ _ g;refine Z0 j d (.inr (Zc3 (Z5 c) H w).1) ?_;rw[b];simp only[Yai,Zis m (Z5 h) w,Y5,Yat]
theorem Zr8 (q:Gam B N w0 H0 s a w H φ){t:TypeId}{x:Operand}{f:Nat}(E:o.op=.field t x f)(D:((S.evalA x).bind λ v=>effField P N o.dst t f v).run s=some (e,l)):Zl6 P B N w0 H0 o s e a w:=by
 obtain⟨v,_,_,J,g⟩:=Zh _ _ D;have p:=Zm q J;unfold effField at g
 split at g
 .rename_i cs
  split at g
  .rename_i fields hu
   split at g
   .rename_i fd hfd
    obtain⟨u,_,_,G,A⟩:=Zh _ _ g;have c:=Z5 G;have k:RepV H w (.agg cs) (a.eval x):=by
     rcases p with⟨_,_,L,_⟩|p
     .cases L
     .exact p
    rw[RepV] at k;obtain⟨vs,F,z⟩:=k;have h:∃r,(part fd.type vs.toArray fd.offset).run P w=.ok r w/\RepV H w u r:=by
     unfold S.loadA at c
     cases hut:P.underlying fd.type with
     | none=>simp[isAggA,hut] at c
     | some dd =>
      cases hdd:dd.isRow with
      | true =>
       simp only[isAggA,hut,Ycl,hdd] at c
       cases hn:sizeA P fd.type with
       | none=>rw[hn] at c;cases c
       | some n =>
        rw[hn] at c;simp only at c
        split at c
        .rename_i hle
         cases c
         obtain⟨i,hi,m⟩:=Zcc hn;have b:(isAgg fd.type).run P w=.ok true w:=by
          unfold isAgg;rw[Yai,run_underlying hut w]
          cases dd <;> simp_all
         refine⟨.agg (vs.toArray.extract fd.offset (fd.offset+i.size)),by simp[part,Yai,b,sizeOf,typeInfo,hi],?_⟩;rw[RepV];refine⟨(vs.drop fd.offset).take n,?_,RepL.take n (RepL.drop fd.offset z)⟩;rw[m];simp
        .cases c
      | false =>
       simp only[isAggA,hut,Ycl,hdd] at c;obtain⟨r,K,_,d⟩:=RepL.at_ z c;have b:(isAgg fd.type).run P w=.ok false w:=by
        unfold isAgg;rw[Yai,run_underlying hut w]
        cases dd <;> simp_all
       exact⟨r,by simp[part,Yai,b,K],d⟩
    obtain⟨r,j,d⟩:=h;refine Z0 q A (.inr d) ?_;unfold execOp;simp only[E,F,Instr.field,Yai,run_underlying hu,Y5,hfd,asAgg,Yat,j]
   .simp[Rd.run] at g
  .simp[Rd.run] at g
 .simp[Rd.run] at g
theorem Zjt (j:Gam B N w0 H0 s a w H φ){m:TypeId}{x:Operand}{f:Nat}(t:o.op=.fieldAddr m x f)(q:((S.evalA x).bind λ v=>effFieldAddr P N o.dst m f v).run s=some (e,l)):Zl6 P B N w0 H0 o s e a w:=by
 obtain⟨v,_,_,z,b⟩:=Zh _ _ q;have d:=Zm j z;unfold effFieldAddr at b
 split at b
 .rename_i i off
  split at b
  .rename_i fields hu
   split at b
   .rename_i fd hfd
    split at b
    .rename_i n hn
     simp only[Rd.run] at b;rcases d with⟨i',k,hi,c,u⟩|d
     .cases hi
      obtain⟨en,g⟩:=Y7.1 c;rw[g] at b
      split at b
      .rename_i e' l' h3
       simp only[Option.some.injEq,Prod.mk.injEq] at b;obtain⟨rfl,_⟩:=b;obtain⟨p,hi,h⟩:=Zcc hn;refine Z0 j h3 (.inl ⟨i,off+fd.offset,rfl,c,rfl⟩) ?_;unfold execOp;simp only[t,u,Instr.fieldAt,Yai,run_underlying hu,Y5,hfd,Instr.sureAddr,Yat,fieldPlace,sizeOf,typeInfo,run_program,hi,h,Addr.add_mid];simp
      .cases b
     .rw[RepV] at d;exact d.elim
    .simp[Rd.run] at b
   .simp[Rd.run] at b
  .simp[Rd.run] at b
 .simp[Rd.run] at b
theorem Zv3 {k:IntKind}{n:Int}{v:Value}(h:Zvm H w φ s (.int k n) v):v=.int k n:=by
 rcases h with⟨_,_,b,_⟩|h
 .cases b
 .rw[RepV] at h;exact h
theorem Zju (G:Gam B N w0 H0 s a w H φ){t:TypeId}{x ix:Operand}(Z:o.op=.indexAddr t x ix)(he:((S.evalA x).bind λ v=>(S.evalA ix).bind λ u=>effIndexAddr P N o.dst t v u).run s=some (e,l)):Zl6 P B N w0 H0 o s e a w:=by
 obtain⟨v,_,_,h1,h2⟩:=Zh _ _ he;obtain⟨u,_,_,h3,d⟩:=Zh _ _ h2;have D:=Zm G h1;have hu:=Zm G h3;unfold effIndexAddr at d
 split at d
 .rename_i e' n cs k i hut
  split at d
  .rename_i z hz
   split at d
   .rename_i hh
    obtain⟨K,Y,p,V⟩:=hh;obtain⟨O,g,j⟩:=Zcc hz;have F:RepV H w (.row n cs) (a.eval x):=by
     rcases D with⟨_,_,hq,_⟩|D
     .cases hq
     .exact D
    rw[RepV] at F;obtain⟨A,c,T,_,_,L⟩:=F;have m:=Zv3 hu;have M:cs≠[]:=λ e9=>by
     rw[e9] at p;have:0<n*z:=Nat.mul_pos (by omega) V;simp at p;omega
    rcases L with L|⟨b,q,h,rfl,hH,X,J⟩
    .exact absurd L M
    .have hp:RepV H w (.ptr cs (i.toNat*z)) (.pointer (some ⟨b,q+i.toNat*z,none⟩)):=by
      rw[RepV];exact⟨b,q,h,rfl,hH,X,J⟩
     refine Z0 G d (.inr hp) ?_
     .unfold execOp
      simp only[Z,T,m,Instr.indexAt,asIntOf,Yai,run_underlying hut,Y5,Yat];rw[if_pos ⟨K,Y⟩];simp only[Yai,sizeOf,typeInfo,run_program,g,Y5,Yat,j,Addr.add_mid]
   .simp[Rd.run] at d
  .simp[Rd.run] at d
 .rename_i n e' b off k i hut
  split at d
  .rename_i z hz
   split at d
   .rename_i hh
    obtain⟨O,g,j⟩:=Zcc hz;simp only[Rd.run] at d;rcases D with⟨i',a0,hi,E,T⟩|D
    .cases hi
     obtain⟨en,U⟩:=Y7.1 E;rw[U] at d
     split at d
     .rename_i e2 l' h5
      simp only[Option.some.injEq,Prod.mk.injEq] at d;obtain⟨rfl,_⟩:=d;have m:=Zv3 hu;refine Z0 G h5 (.inl ⟨b,off+i.toNat*z,rfl,E,rfl⟩) ?_;unfold execOp;simp only[Z,T,m,Instr.indexAt,asIntOf,Yai,run_underlying hut,Y5,Yat,Instr.sureAddr];rw[if_pos hh];simp only[Yai,sizeOf,typeInfo,run_program,g,Y5,Yat,j,Addr.add_mid]
     .cases d
    .rw[RepV] at D;exact D.elim
   .simp[Rd.run] at d
  .simp[Rd.run] at d
 .simp[Rd.run] at d
theorem Znj (g:GamX B N w0 H0 s a w){W:World->Prop}(hW:W w){call:FuncId->List S.AV->Option (S.AV×S.Tail)}(hcall:∀f xs r y,call f xs=some (r,y)->AFn P W f xs r y){id:Nat}
 (d:(effOne P N call id o).run s=some (e,l)):Zl6 P B N w0 H0 o s e a w:=by
 obtain⟨H,φ,g⟩:=g;unfold effOne at d
 split at d
 .rename_i x ho;exact Ziz g (.inr ho) d
 .rename_i x ho;exact Ziz g (.inl ho) d
 .rename_i c x y ho
  obtain⟨v,_,_,j,d⟩:=Zh _ _ d;have h:=Zm g j
  split at d
  .rename_i b
   obtain⟨u,_,_,k,q⟩:=Zh _ _ d;have Y:=Zm g k;have M:a.eval c=.bool b:=by
    rcases h with⟨_,_,E,_⟩|h
    .cases E
    .rw[RepV] at h;exact h
   refine Z0 g q Y ?_;unfold execOp
   cases b <;> simp[ho,M,asBool]
  .simp[Rd.run] at d
 .rename_i t ho;exact Zr1 g ho d
 .rename_i t x ho;exact Zyy g ho d
 .rename_i t ps ho;exact Zr2 g ho d
 .rename_i t len ps ho;exact Zr5 g ho d
 .rename_i t x ho;exact Zv1 g ho d
 .rename_i t x y ho;exact Zr6 g ho d
 .rename_i op xt x y yt ho
  obtain⟨v,_,_,j,d⟩:=Zh _ _ d;obtain⟨u,_,_,O,d⟩:=Zh _ _ d;obtain⟨p,_,_,k,d⟩:=Zh _ _ d;obtain⟨K,_,_,q,d⟩:=Zh _ _ d;have z:=Zhf (Zm g j) (Z5 k);have T:=Zhf (Zm g O) (Z5 q);refine Zi1 g (m:=do eqGuard op xt x y p K;binOp op xt p K) ?_ d;unfold execOp;simp only[ho,z,T]
 .rename_i op xt x ho
  obtain⟨v,_,_,j,d⟩:=Zh _ _ d;obtain⟨p,_,_,k,d⟩:=Zh _ _ d;have z:=Zhf (Zm g j) (Z5 k);refine Zi1 g (m:=Op.unary op p) ?_ d;unfold execOp;simp only[ho,z]
 .rename_i t t' x ho
  obtain⟨v,_,_,j,d⟩:=Zh _ _ d;obtain⟨p,_,_,k,d⟩:=Zh _ _ d;have z:=Zhf (Zm g j) (Z5 k);refine Zi1 g (m:=convert t t' p) ?_ d;unfold execOp;simp only[ho,z]
 .rename_i x i ho
  obtain⟨v,_,_,j,d⟩:=Zh _ _ d;have h:=Zm g j
  split at d
  .rename_i vs
   obtain⟨u,_,_,k,q⟩:=Zh _ _ d;have L:=Z5 k;rcases h with⟨_,_,E,_⟩|h
   .cases E
   .rw[RepV] at h
    obtain⟨Z,J,X⟩:=h;obtain⟨r,V,D⟩:=RepT.at_ X L;refine Z0 g q (.inr D) ?_;unfold execOp;have G:Z.toArray[i]?=some r:=by simpa using V
    simp only[ho,J,Instr.extract,G,Yai,Yat,Y5]
  .simp[Rd.run] at d
 .rename_i xt x f ho;exact Zr8 g ho d
 .rename_i xt x f ho;exact Zjt g ho d
 .rename_i t x i ho;exact Zju g ho d
 .rename_i c ho
  split at d
  .rename_i f hcal;exact Zv2 g hW hcall ho hcal d
  .rename_i hcal
   split at d
   .rename_i sl x t t' hargs htys
    split at d
    .rename_i htt
     subst htt;exact Zpc g ho hcal hargs htys d
    .simp[Rd.run] at d
   .simp[Rd.run] at d
  .rename_i hcal
   split at d
   .rename_i x t hargs htys
    split at d
    .rename_i et hut
     obtain⟨v,_,_,j,d⟩:=Zh _ _ d;have h:=Zm g j
     split at d
     .rename_i n cs
      rcases h with⟨_,_,E,_⟩|h
      .cases E
      .rw[RepV] at h
       obtain⟨A,cp,J,_⟩:=h;have U:c.args=#[x]:=by rw[<- Ybw (xs:=c.args),hargs]
       have F:c.argTypes=#[t]:=by rw[<- Ybw (xs:=c.argTypes),htys]
       refine Z0 g d (u:=.int .i64 n) (.inr (by rw[RepV])) ?_;unfold execOp;simp[ho,resolve,hcal,U,F,invoke,builtin,J,Builtin.len_,goInt,run_underlying hut]
     .simp[Rd.run] at d
    .simp[Rd.run] at d
   .simp[Rd.run] at d
  .simp[Rd.run] at d
 .simp[Rd.run] at d
theorem Zql (g:GamX B N w0 H0 s a w){W:World->Prop}(hW:W w){call:FuncId->List S.AV->Option (S.AV×S.Tail)}(hcall:∀f xs r y,call f xs=some (r,y)->AFn P W f xs r y){id:Nat}{ops:Array Oper}
 (i:(S.effOp P N call ops id o).run s=some (e,l)) (K:Act->World->Prop) (Q:Exit->Act->World->Prop) (p:∀u w',GamX B N w0 H0 (e.apply s) u w'->K u w') :
 (Yak o (yielded ops a.tmps)=true/\o.wp P a w K Q)\/(Yak o (yielded ops a.tmps)=false/\K (a.put o.dst undef) w):=by
 unfold S.effOp at i
 split at i
 .rename_i hg
  exact .inl ⟨by unfold Yak;rw[hg],Znj g hW hcall i K Q p⟩
 .rename_i j want hg
  have h:Yak o (yielded ops a.tmps)=(yielded ops a.tmps j==some want):=by unfold Yak;rw[hg]
  split at i
  .rename_i d hd
   obtain⟨v,l1,l2,z,c⟩:=Zh _ _ i;clear i
   split at c
   .rename_i b
    have A:yielded ops a.tmps j=some b:=by
     obtain⟨H,φ,g⟩:=g;have k:a.tmps.getD d undef=.bool b:=by
      rcases Zm g z with⟨_,_,m,_⟩|k
      .cases m
      .rw[RepV] at k;exact k
     unfold dstOf at hd
     split at hd
     .rename_i o' ho'
      have q:a.tmps[d]?=some (.bool b):=by
       cases m:a.tmps[d]? with
       | none=>rw[Ycn,m] at k;cases k
       | some x=>rw[Ycn,m] at k;exact congrArg some k
      unfold yielded;rw[ho'];simp only[Option.bind_some,hd,q]
     .cases hd
    rw[h,A]
    split at c
    .rename_i hb
     subst hb;exact .inl ⟨by simp,Znj g hW hcall c K Q p⟩
    .rename_i hb
     refine .inr ⟨by simpa using hb,p _ _ ?_⟩;obtain⟨H,φ,g⟩:=g;rcases Zca c with⟨n,rfl⟩|⟨d',n,t,rfl⟩
     .rw[n]
      exact⟨H,φ,g⟩
     .rw[n]
      exact⟨H,φ,g.value t (.inr (by rw[RepV];trivial))⟩
   .simp[Rd.run] at c
  .simp[Rd.run] at i
end
end
section
namespace S
def runOps (P:Program)(N:Nat)(call:FuncId->List AV->Option (AV×Tail))(ops:Array Oper)(ep:Nat):List Oper->Nat->St->Option (List (Eff×List Nat)×St)
 | [],_,s=>some ([],s)
 | o::r,i,s=>match (effOp P N call ops (1000*ep+i) o).run s with
  | none=>none
  | some (e,l)=>match runOps P N call ops ep r (i+1) (e.apply s) with
   | none=>none
   | some (es,s')=>some ((e,l)::es,s')
def depsOk:List Oper->Nat->Bool
 | [],_=>true
 | o::r,i=>o.after.toList.all (λ e=>!Ybn .any e || Nat.blt e.on i) && depsOk r (i+1)
def regionA (P:Program)(N:Nat)(call:FuncId->List AV->Option (AV×Tail))(ep:Nat)(ops:Array Oper)(draw:Bool)(s:St):Option St:=match runOps P N call ops ep ops.toList 0 s with
 | none=>none
 | some (es,s')=>if draw=true then(if P.follows .mixedOrders=true/\depsOk ops.toList 0=true/\apartB es (befs ops.toList []) 0=true then some s' else none) else some s'
end S
section
variable {P:Program}{B N:Nat}{w0:World}{H0:Zn}{W:World->Prop}{call:FuncId->List S.AV->Option (S.AV×S.Tail)}{ep:Nat}
theorem Zi2 {g:Array Oper}:∀{ops:List Oper} {i:Nat} {s s':S.St} {b:List (S.Eff×List Nat)},S.runOps P N call g ep ops i s=some (b,s') ->
 b.length=ops.length/\s'=stL (λ _=>true) b i s/\∀k o,ops[k]?=some o->∃e l,b[k]?=some (e,l)/\(S.effOp P N call g (1000*ep+(i+k)) o).run (stL (λ j=>decide (j<i+k)) b i s)=some (e,l)
 | [],i,s,s',b,h=>by
  simp only[S.runOps,Option.some.injEq,Prod.mk.injEq] at h;obtain⟨rfl,rfl⟩:=h;exact⟨rfl,rfl,λ k o c=>by simp at c⟩
 | o::r,i,s,s',b,h=>by
  unfold S.runOps at h
  split at h
  .cases h
  .rename_i e l he
   split at h
   .cases h
   .rename_i es' s2 hr
    simp only[Option.some.injEq,Prod.mk.injEq] at h;obtain⟨rfl,rfl⟩:=h;obtain⟨z,v,x⟩:=Zi2 hr;refine⟨by rw[Yk,Yk,z],by rw[stL,if_pos rfl];exact v,λ k A c=>?_⟩
    cases k with
    | zero =>
     simp at c;subst c;refine⟨e,l,rfl,?_⟩;have m:stL (λ j=>decide (j<i+0)) ((e,l)::es') i s=s:=by
      have d:∀(b:List (S.Eff×List Nat)) (k:Nat) (s:S.St),i<=k->stL (λ j=>decide (j<i+0)) b k s=s:=by
       intro b
       induction b with
       | nil=>intro k s _;rfl
       | cons p b ih =>
        obtain⟨e1,l1⟩:=p;intro k s c;rw[stL,if_neg (by simp;omega),ih (k+1) s (by omega)]
      exact d _ i s (Yc _)
     rw[m];exact he
    | succ k =>
     obtain⟨u,t,q,n⟩:=x k A (by simpa using c);refine⟨u,t,by simpa using q,?_⟩;rw[stL,if_pos (by simp),show i+(k+1)=i+1+k by omega];exact n
theorem GamX.drew {s:S.St}{a:Act}{w:World}(h:GamX B N w0 H0 s a w):GamX B N w0 H0 s a w.drew:=by
 obtain⟨H,φ,h⟩:=h;refine⟨H,φ,⟨⟨h.bel.os,h.bel.tape,h.bel.output,h.bel.size,h.bel.block⟩,h.base,h.old,h.bnd,h.size,h.defs,λ t x c=>?_,λ i e cs hi=>?_,h.inj,λ t y p=>?_,h.tinj⟩⟩
 .have hst:Stay H w H w.drew:=λ b k e=>⟨k,e,Yc _,λ _ _=>rfl⟩
  rcases h.slot t x c with m|q
  .exact .inl m
  .exact .inr (RepV.stay hst _ _ q)
 .have hst:Stay H w H w.drew:=λ b k e=>⟨k,e,Yc _,λ _ _=>rfl⟩
  obtain⟨n,g,vs,j,d⟩:=h.ent i e cs hi;exact⟨n,g,vs,j,RepL.stay hst _ _ d⟩
 .obtain⟨x,c,hok⟩:=h.tail t y p
  exact⟨x,c,hok.keep λ _ _=>⟨rfl,rfl⟩⟩
variable (hW:∀w,Below B w0 w->W w)(hcall:∀f xs r y,call f xs=some (r,y)->AFn P W f xs r y)
include hW hcall
theorem Z03 {s:S.St}{a:Act}{w:World}(h:GamX B N w0 H0 s a w):W w:=by
 obtain⟨H,φ,h⟩:=h;exact hW w h.bel
theorem Zg1 {ops:Array Oper}{Q:Exit->Act->World->Prop}:∀{l:List Oper} {i:Nat} {s s':S.St} {c:List (S.Eff×List Nat)},S.runOps P N call ops ep l i s=some (c,s')->(∀a w,GamX B N w0 H0 s' a w->Q .normal a w)->∀a w,GamX B N w0 H0 s a w->wpList P ops Q l a w
 | [],i,s,s',c,h,hQ,a,w,hG=>by
  simp only[S.runOps,Option.some.injEq,Prod.mk.injEq] at h;obtain⟨_,rfl⟩:=h;exact hQ a w hG
 | o::r,i,s,s',c,h,hQ,a,w,hG=>by
  unfold S.runOps at h
  split at h
  .cases h
  .rename_i e l he
   split at h
   .cases h
   .rename_i es' s2 hr
    simp only[Option.some.injEq,Prod.mk.injEq] at h;obtain⟨_,rfl⟩:=h;have hd:=Zql hG (Z03 hW hcall hG) hcall he (wpList P ops Q r) Q λ g w' d=>Zg1 hr hQ g w' d
    rw[wpList];rcases hd with⟨b,hd⟩|⟨b,hd⟩
    .rw[if_pos b]
     exact .inl hd
    .rw[if_neg (by rw[b];simp)]
     exact hd
omit hW hcall in
theorem Znk:∀{l:List Oper} {i:Nat},S.depsOk l i=true->∀k o,l[k]?=some o->∀e∈o.after,Ybn .any e=true->e.on<i+k
 | [],i,h,k,o,hk=>by simp at hk
 | o'::r,i,h,k,o,hk=>by
  simp only[S.depsOk,Yq] at h
  cases k with
  | zero =>
   simp at hk;subst hk;intro e c b;have:=List.all_eq_true.1 h.1 e (Array.mem_toList_iff.2 c);simp only[b,Bool.not_true,Bool.false_or] at this
   simpa using this
  | succ k =>
   intro e c b;have:=Znk h.2 k o (by simpa using hk) e c b;omega
omit hW hcall in
theorem Zr9 {ops:Array Oper}(hd:S.depsOk ops.toList 0=true){b:Array Bool}(hn:b.size=ops.size)(g:Yay .any ops b=[]):∀i,i<ops.size->b.getD i false=true:=by
 intro i
 induction i using Ycx with
 | _ i ih =>
  intro hi
  cases hl:b.getD i false with
  | true=>rfl
  | false =>
   have d:ops[i]?=some ops[i]:=Ydk hi;have c:i∈Yay .any ops b:=mem_ready.2 ⟨getD_in (by omega) hl,_,d,λ e j h=>by
    have:=Znk hd i ops[i] (by rw[Array.getElem?_toList];exact d) e j h;exact ih e.on (by omega) (by omega)⟩
   rw[g] at c
   cases c
theorem Zsa {ops:Array Oper}{Q:Exit->Act->World->Prop}{s s':S.St}{u:List (S.Eff×List Nat)}(h:S.runOps P N call ops ep ops.toList 0 s=some (u,s'))(hd:S.depsOk ops.toList 0=true)(hA:S.apartB u (S.befs ops.toList []) 0=true)
 (hQ:∀a w,GamX B N w0 H0 s' a w->Q .normal a w):∀(fuel:Nat)(d:Array Bool)(a:Act)(w:World),d.size=ops.size->(∀i j,d.getD i false=true->Ybf .any ops i j=true->d.getD j false=true) ->
  GamX B N w0 H0 (stL (λ k=>d.getD k false) u 0 s) a w->d.toList.countP (λ b=>!b)=fuel->wpAny P .any ops Q fuel d a w:=by
 obtain⟨h1,h2,h3⟩:=Zi2 h;have x:u.length=ops.size:=by rw[h1];simp
 have a4:(S.befs ops.toList []).length=u.length:=by rw[Zii,x];simp
 have v:∀(d:Array Bool)(a:Act)(w:World),(∀i,i<ops.size->d.getD i false=true)->GamX B N w0 H0 (stL (λ k=>d.getD k false) u 0 s) a w->Q .normal a w:=λ d a w g G=>by
  refine hQ a w ?_;have e:stL (λ k=>d.getD k false) u 0 s=s':=by
   rw[h2];refine Z0p λ r=>Zfk u 0 s s (same.refl _ _) λ k e l M _=>?_
   rw[Y2];exact g k (by rw[<- x];exact(Yg.1 M).1)
  rw[<- e];exact G
 have bits:∀{L:Nat->Bool},(∀i j,L i=true->Ybf .any ops i j=true->L j=true)->∀k b,(S.befs ops.toList [])[k]?=some b->(∀m,Ybf .any ops k m=true->L m=true)->∀j,b.testBit j=true->L j=true:=λ {L} n k b t M j V=>by
  have:=Zij (ops:=ops) (C:=λ k j=>(∀m,Ybf .any ops k m=true->L m=true)->L j=true) [] ops.toList [] rfl rfl (λ i b t=>by simp at t) (λ i j E g=>g j E)
   (λ i j k E a1 g=>a1 λ m hm=>n j m (g j E) hm) k b t j V
  exact this M
 intro fuel
 induction fuel with
 | zero =>
  intro d a w hn n G hc;have g:∀i,i<ops.size->d.getD i false=true:=λ i hi=>by
   have a2:i<d.size:=by omega
   cases hl:d.getD i false with
   | true=>rfl
   | false =>
    exfalso
    have:0<d.toList.countP (λ b=>!b):=List.countP_pos_iff.2 ⟨false,by
     have e:d[i]=false:=by simpa[a2] using hl
     rw[<- e];simp,rfl⟩
    omega
  refine⟨?_,v d a w g G⟩
  cases X:Yay .any ops d with
  | nil=>rfl
  | cons i r =>
   have hi:i∈Yay .any ops d:=by rw[X];exact List.mem_cons_self
   obtain⟨D,o,K,_⟩:=mem_ready.1 hi;have:=g i (Y3.1 K).1;rw[getD_both D] at this
   cases this
 | succ fuel ih =>
  intro d a w hn n G hc;refine⟨λ X=>v d a w (Zr9 hd hn X) G,λ i hi=>?_⟩;obtain⟨D,o,K,J⟩:=mem_ready.1 hi;have z:=getD_both D;have a5:=(Y3.1 K).1;have q:i<d.size:=by omega
  obtain⟨e,l,Z,U⟩:=h3 i o (by simpa using K);have hw:∀m,Ybf .any ops i m=true->d.getD m false=true:=λ m hm=>by
   obtain⟨oi,Y,e',a0,t,a3⟩:=Region.waitsFor_spec hm;rw[K] at Y
   cases Y
   have:=J e' a0 t;rw[a3] at this;exact this
  obtain⟨q1,q2⟩:=Zym (L:=λ k=>d.getD k false) hA a4 (λ k b t hL j V=>bits n k b t (λ m hm=>n k m hL hm) j V) Z z (λ b t j V=>bits n i b t hw j V) s;have A:=Zhc _ U (s':=stL (λ k=>d.getD k false) u 0 s) (λ r X=>by rw[Y2];exact q1 r X);have p:=Zql G (Z03 hW hcall G) hcall A (wpAny P .any ops Q fuel (d.setIfInBounds i true)) Q λ a' w' T=>ih _ a' w' (by rw[Array.size_setIfInBounds];exact hn) (λ k j M O=>?_) ?_ ?_
  .unfold wpOp
   simp only[K];rcases p with⟨F,p⟩|⟨F,p⟩
   .rw[if_pos F]
    exact .inl p
   .rw[if_neg (by rw[F];simp)]
    exact p
  .by_cases c:k=i
   .subst c
    exact getD_set_true (hw j O)
   .rw[getD_set_ne false (Ne.symm c)] at M
    exact getD_set_true (n k j M O)
  .rw[<- q2] at T
   have e9:(λ k=>(d.setIfInBounds i true).getD k false)=λ k=>if k=i then true else d.getD k false:=by
    funext k
    by_cases c:k=i
    .subst c
     simp[q]
    .rw[getD_set_ne false (Ne.symm c),if_neg c]
   rw[e9];exact T
  .rw[Array.toList_setIfInBounds,List.countP_set (by simpa using q)]
   have e:d.toList[i]'(by simpa using q)=false:=by simpa[q] using z
   have hp:0<d.toList.countP (λ b=>!b):=List.countP_pos_iff.2 ⟨false,by rw[<- e];exact List.getElem_mem _,rfl⟩;simp only[e,Bool.not_false,if_true,Bool.not_true]
   first|omega | (simp only[Ybq,not_false_eq_true,if_true,if_false];omega)
theorem Znl {id:Nat}{ops:Array Oper}{b:Bool}{Q:Exit->Act->World->Prop}{s s':S.St}(h:S.regionA P N call ep ops b s=some s')(g:∀a w,GamX B N w0 H0 s' a w->Q .normal a w){a:Act}{w:World}(m:GamX B N w0 H0 s a w) :
 (Code.region id ops b).wp P Q a w:=by
 unfold S.regionA at h
 split at h
 .cases h
 .rename_i c s2 hr
  cases b with
  | false =>
   simp only[Ybq,if_false,Option.some.injEq] at h;subst h;exact wp_region_list (Zg1 hW hcall hr g a w m)
  | true =>
   simp only[if_true] at h
   split at h
   .rename_i hh
    obtain⟨hm,hd,hA⟩:=hh;simp only[Option.some.injEq] at h;subst h;refine wp_region_any hm (Zsa hW hcall hr hd hA g _ _ _ _ (by simp) (λ i j hi=>?_) ?_ (by simp[List.countP_replicate]))
    .rw[getD_replicate_false] at hi;cases hi
    .have e:stL (λ k=>(Ya9 ops.size false).getD k false) c 0 s=s:=by
      have d:∀(c:List (S.Eff×List Nat)) (k:Nat) (s:S.St),stL (λ k=>(Ya9 ops.size false).getD k false) c k s=s:=by
       intro c
       induction c with
       | nil=>intro k s;rfl
       | cons p c ih =>
        obtain⟨e1,l1⟩:=p;intro k s;rw[stL,getD_replicate_false,if_neg (by simp),ih]
      exact d c 0 s
     rw[e];exact m.drew
   .cases h
end
namespace S
inductive AEx where
 | normal
 | exit (id:Nat)
 | ret
def AEx.to_:AEx->Exit
 | .normal=>.normal
 | .exit id=>.exit id
 | .ret=>.ret
def runCode (P:Program)(N:Nat)(call:FuncId->List AV->Option (AV×Tail)):Nat->Code->Nat->St->Option (AEx×Nat×St)
 | 0,_,_,_=>none
 | n+1,c,ep,s=>match c with
  | .skip=>some (.normal,ep,s)
  | .label _=>some (.normal,ep,s)
  | .ret=>some (.ret,ep,s)
  | .exit id=>some (.exit id,ep,s)
  | .region _ ops draw=>match regionA P N call ep ops draw s with
   | some s'=>some (.normal,ep+1,s')
   | none=>none
  | .seq x y=>match runCode P N call n x ep s with
   | some (.normal,ep',s')=>runCode P N call n y ep' s'
   | some (.exit id,ep',s')=>some (.exit id,ep',s')
   | some (.ret,ep',s')=>some (.ret,ep',s')
   | none=>none
  | .cond c x y=>match (evalA c).run s with
   | some (.bool true,_)=>runCode P N call n x ep s
   | some (.bool false,_)=>runCode P N call n y ep s
   | _=>none
  | .block id b=>match runCode P N call n b ep s with
   | some (.normal,ep',s')=>some (.normal,ep',s')
   | some (.exit id',ep',s')=>if id'=id then some (.normal,ep',s') else some (.exit id',ep',s')
   | some (.ret,ep',s')=>some (.ret,ep',s')
   | none=>none
  | .scope b=>runCode P N call n b ep s
  | .loop b=>match runCode P N call n b ep s with
   | some (.normal,ep',s')=>runCode P N call n (.loop b) ep' s'
   | some (.exit id,ep',s')=>some (.exit id,ep',s')
   | some (.ret,ep',s')=>some (.ret,ep',s')
   | none=>none
  | _=>none
end S
section
variable {P:Program}{B N:Nat}{w0:World}{H0:Zn}{W:World->Prop}{call:FuncId->List S.AV->Option (S.AV×S.Tail)}(hW:∀w,Below B w0 w->W w)(hcall:∀f xs r y,call f xs=some (r,y)->AFn P W f xs r y)
include hW hcall
theorem Zsb:∀(n:Nat)(c:Code)(ep t:Nat)(s s':S.St)(u:S.AEx),S.runCode P N call n c ep s=some (u,t,s')->∀(Q:Exit->Act->World->Prop),(∀a w,GamX B N w0 H0 s' a w->Q u.to_ a w)->∀a w,GamX B N w0 H0 s a w->c.wp P Q a w:=by
 intro n
 induction n using Ycx with
 | _ n ih =>
 intro c ep t s s' u h Q i a w g
 cases n with
 | zero=>simp[S.runCode] at h
 | succ n =>
 cases c with
 | skip =>
  simp only[S.runCode,Option.some.injEq,Prod.mk.injEq] at h;obtain⟨rfl,_,rfl⟩:=h;exact wp_skip (i a w g)
 | label l =>
  simp only[S.runCode,Option.some.injEq,Prod.mk.injEq] at h;obtain⟨rfl,_,rfl⟩:=h;exact wp_label (i a w g)
 | ret =>
  simp only[S.runCode,Option.some.injEq,Prod.mk.injEq] at h;obtain⟨rfl,_,rfl⟩:=h;exact wp_ret (i a w g)
 | exit id =>
  simp only[S.runCode,Option.some.injEq,Prod.mk.injEq] at h;obtain⟨rfl,_,rfl⟩:=h;exact wp_exit (i a w g)
 | region id ops draw =>
  simp only[S.runCode] at h
  split at h
  .rename_i s2 hr
   simp only[Option.some.injEq,Prod.mk.injEq] at h;obtain⟨rfl,_,rfl⟩:=h;exact Znl hW hcall hr i g
  .cases h
 | seq x y =>
  simp only[S.runCode] at h;refine wp_seq ?_
  split at h
  .rename_i e1 s1 hx
   exact ih n (Ya6 n) x ep _ s _ _ hx _ (λ a w d=>ih n (Ya6 n) y _ _ _ _ _ h Q i a w d) a w g
  .rename_i id e1 s1 hx
   simp only[Option.some.injEq,Prod.mk.injEq] at h;obtain⟨rfl,_,rfl⟩:=h;refine ih n (Ya6 n) x ep _ s _ _ hx _ (λ a w d=>?_) a w g;exact i a w d
  .rename_i e1 s1 hx
   simp only[Option.some.injEq,Prod.mk.injEq] at h;obtain⟨rfl,_,rfl⟩:=h;refine ih n (Ya6 n) x ep _ s _ _ hx _ (λ a w d=>?_) a w g;exact i a w d
  .cases h
 | cond c x y =>
  simp only[S.runCode] at h;have j:∀b l,(S.evalA c).run s=some (.bool b,l)->a.eval c=.bool b:=λ b l v=>by
   obtain⟨H,φ,g⟩:=g;rcases Zm g v with⟨_,_,A,_⟩|z
   .cases A
   .rw[RepV] at z;exact z
  split at h
  .rename_i l v
   exact wp_cond_true (j _ _ v) (ih n (Ya6 n) x ep _ s _ _ h Q i a w g)
  .rename_i l v
   exact wp_cond_false (j _ _ v) (ih n (Ya6 n) y ep _ s _ _ h Q i a w g)
  .cases h
 | block id b =>
  simp only[S.runCode] at h;refine wp_block ?_
  split at h
  .rename_i e1 s1 hx
   simp only[Option.some.injEq,Prod.mk.injEq] at h;obtain⟨rfl,_,rfl⟩:=h;refine ih n (Ya6 n) b ep _ s _ _ hx _ (λ a w d=>?_) a w g;exact i a w d
  .rename_i id' e1 s1 hx
   split at h
   .rename_i hid
    simp only[Option.some.injEq,Prod.mk.injEq] at h;obtain⟨rfl,_,rfl⟩:=h;refine ih n (Ya6 n) b ep _ s _ _ hx _ (λ a w d=>?_) a w g
    show Exit.inBlock id Q (.exit id') a w
    unfold Exit.inBlock;simp only[if_pos hid];exact i a w d
   .rename_i hid
    simp only[Option.some.injEq,Prod.mk.injEq] at h;obtain⟨rfl,_,rfl⟩:=h;refine ih n (Ya6 n) b ep _ s _ _ hx _ (λ a w d=>?_) a w g
    show Exit.inBlock id Q (.exit id') a w
    unfold Exit.inBlock;simp only[if_neg hid];exact i a w d
  .rename_i e1 s1 hx
   simp only[Option.some.injEq,Prod.mk.injEq] at h;obtain⟨rfl,_,rfl⟩:=h;refine ih n (Ya6 n) b ep _ s _ _ hx _ (λ a w d=>?_) a w g;exact i a w d
  .cases h
 | scope b =>
  simp only[S.runCode] at h;refine wp_scope_straight (ih n (Ya6 n) b ep _ s _ _ h _ (λ a w d=>?_) a w g);have:=i a w d
  cases u <;> exact this
 | loop b =>
  refine wp_loop_ghost (λ m a w=>m<=n+1/\∃ep s,GamX B N w0 H0 s a w/\S.runCode P N call m (.loop b) ep s=some (u,t,s')) (n+1) ⟨Yc _,ep,s,g,h⟩ ?_;rintro m a w ⟨hm,q,s1,p,k⟩
  cases m with
  | zero=>simp[S.runCode] at k
  | succ m =>
   simp only[S.runCode] at k
   split at k
   .rename_i e2 s2 hx
    exact ih m (by omega) b q _ s1 _ _ hx _ (λ a w d=>⟨m,Ya6 m,by omega,_,_,d,k⟩) a w p
   .rename_i id e2 s2 hx
    simp only[Option.some.injEq,Prod.mk.injEq] at k;obtain⟨rfl,_,rfl⟩:=k;refine ih m (by omega) b q _ s1 _ _ hx _ (λ a w d=>?_) a w p;exact i a w d
   .rename_i e2 s2 hx
    simp only[Option.some.injEq,Prod.mk.injEq] at k;obtain⟨rfl,_,rfl⟩:=k;refine ih m (by omega) b q _ s1 _ _ hx _ (λ a w d=>?_) a w p;exact i a w d
   .cases k
 | rangeFunc f ps x y=>simp[S.runCode] at h
 | goto l=>simp[S.runCode] at h
 | refuse w=>simp[S.runCode] at h
end
end
section
namespace S
def resultA (P:Program)(s:St):ResultVar->Option (AV×Tail)
 | .tmp t=>match s.sl t with
  | some v=>if v.free=true then some (v,s.tl t) else none
  | none=>none
 | .cell p t=>match s.sl p with
  | some (.box i off)=>match s.hp i with
   | some (_,cs)=>match loadA P t cs off with
    | some v=>some (v,none)
    | none=>none
   | none=>none
  | _=>none
def resultsA (P:Program)(s:St):List ResultVar->Option (List AV)
 | []=>some []
 | r::rs=>match resultA P s r,resultsA P s rs with
  | some (v,_),some vs=>some (v::vs)
  | _,_=>none
def initSt (xs:List AV):St:=⟨λ t=>xs[t]?,λ _=>none,λ _=>none⟩
def bodyA (P:Program)(call:FuncId->List AV->Option (AV×Tail))(cf:Nat)(fn:Func)(c:Code)(xs:List AV):Option (AV×Tail) :=
 if xs.length<=fn.ntmps then match runCode P fn.ntmps call cf c 0 (initSt xs) with
  | some (.exit _,_,_)=>none
  | some (_,_,s)=>match fn.results.toList with
   | [r]=>resultA P s r
   | rs=>match resultsA P s rs with
    | some vs=>if vs.length=1 then none else some (.tup vs,none)
    | none=>none
  | none=>none
 else none
def runFn (P:Program)(orc:FuncId->List AV->Option (AV×Tail))(cf:Nat):Nat->FuncId->List AV->Option (AV×Tail)
 | 0,_,_=>none
 | n+1,f,xs=>match orc f xs with
  | some r=>some r
  | none=>match P.funcs[f]? with
   | some fn=>match fn.body with
    | some c=>bodyA P (runFn P orc cf n) cf fn c xs
    | none=>none
   | none=>none
end S
def Zqm (tmps:Array Value):ResultVar->Sem Value
 | .tmp t=>pure (tmps.getD t undef)
 | .cell p t=>do loadVar t (← asAddr (tmps.getD p undef))
theorem Zko (fn:Func)(tmps:Array Value):results fn tmps=(do let vs ← fn.results.mapM (Zqm tmps);pure (if h:vs.size=1 then vs[0] else .tuple vs)):=by
 unfold results
 congr
section
variable {P:Program}{B N:Nat}{w0:World}{H0:Zn}{s:S.St}{a:Act}{w:World}{H:Zn}{φ:Nat->Nat}
theorem Zkp (g:Gam B N w0 H0 s a w H φ){r:ResultVar}{v:S.AV}{y:S.Tail}(h:S.resultA P s r=some (v,y)) :
 ∃u,(Zqm a.tmps r).run P w=.ok u w/\RepV H w v u/\∀z,y=some z->TailOk H w B z v u:=by
 cases r with
 | tmp t =>
  simp only[S.resultA] at h
  split at h
  .rename_i x hx
   split at h
   .rename_i hf
    simp only[Option.some.injEq,Prod.mk.injEq] at h;obtain⟨rfl,rfl⟩:=h;refine⟨_,rfl,Zqg (g.slot t _ hx) hf,λ z j=>?_⟩;obtain⟨x',c,k⟩:=g.tail t z j;rw[hx] at c
    cases c
    exact k
   .cases h
  .cases h
 | cell p t =>
  simp only[S.resultA] at h
  split at h
  .rename_i i off hx
   split at h
   .rename_i e cs hcs
    split at h
    .rename_i v' hv
     simp only[Option.some.injEq,Prod.mk.injEq] at h;obtain⟨rfl,rfl⟩:=h;rcases g.slot p _ hx with⟨i',m,hi,D,hp⟩|n
     .cases hi
      obtain⟨_,_,vs,E,A⟩:=g.ent i e cs hcs;obtain⟨u,b,d⟩:=Zqk (off:=off) (q:=0) (Zg0 E) A hv;refine⟨u,?_,d,λ z j=>by cases j⟩;rw[Y2] at b;simp only[Instr.loadAt,Instr.sureAddr,Yai,Yat,Y5] at b;simp only[Zqm,hp,asAddr,Yai,Yat,Y5,b]
     .rw[RepV] at n;exact n.elim
    .cases h
   .cases h
  .cases h
theorem Zi3 (g:Gam B N w0 H0 s a w H φ):∀{rs:List ResultVar} {xs:List S.AV},S.resultsA P s rs=some xs->∃vs,(rs.mapM (Zqm a.tmps)).run P w=.ok vs w/\RepT H w xs vs
 | [],xs,h=>by
  simp only[S.resultsA,Option.some.injEq] at h;subst h;exact⟨[],rfl,by rw[RepT]⟩
 | r::rs,xs,h=>by
  unfold S.resultsA at h
  split at h
  .rename_i v y vs h1 h2
   cases h
   obtain⟨u,j,c,_⟩:=Zkp g h1;obtain⟨i,d,b⟩:=Zi3 g h2;refine⟨u::i,?_,by rw[RepT];exact⟨u,i,rfl,c,b⟩⟩;rw[Yds];simp only[Yai,j,Y5,d,Yat]
  .cases h
theorem Zy4 {fn:Func}{xs:List S.AV}{vs:List Value}(hn:xs.length<=fn.ntmps)(p:∀b k,H b=some k->Bk w b)(g:RepT H w xs vs) :
 Gam w.heap.size fn.ntmps w H (S.initSt xs) { tmps:=vs.toArray++Ya9 (fn.ntmps-vs.toArray.size) undef,defers:=[] } w H (λ _=>0):=by
 have hl:=RepT.length g;refine⟨Below.refl _ _,Yc _,λ _ _=>rfl,p,by simp;omega,rfl,λ t x n=>.inr ?_,λ i e cs hi=>by simp[S.initSt] at hi,λ i j hi=>by simp[S.initSt] at hi,λ t y q=>by simp[S.initSt] at q,λ t t' _ m=>by simp[S.initSt] at m⟩;obtain⟨v,h,c⟩:=RepT.at_ g (show xs[t]?=some x from n);have e:({ tmps:=vs.toArray++Ya9 (fn.ntmps-vs.toArray.size) undef,defers:=[] }:Act).tmps.getD t undef=v:=by
  have d:=(Yg.1 h).1;simp only[Ycn];rw[Array.getElem?_append_left (by simpa using d)];simp[h]
 rw[e];exact c
theorem Zsc {W:World->Prop}(p:∀w w',W w->Below w.heap.size w w'->W w'){call:FuncId->List S.AV->Option (S.AV×S.Tail)}(hcall:∀f xs r y,call f xs=some (r,y)->AFn P W f xs r y){D:Nat}{f:FuncId}{fn:Func}{c:Code}
 (hf:P.funcs[f]?=some fn) (F:fn.body=some c) {xs:List S.AV} {r:S.AV} {y:S.Tail} (h:S.bodyA P call D fn c xs=some (r,y)):AFn P W f xs r y:=by
 intro H w vs j n m;unfold S.bodyA at h
 split at h
 .rename_i hn
  refine calls_of_wp hf F ?_;have J:=Zy4 (fn:=fn) hn j m;have A:∀(s:S.St)(a:Act)(w':World),GamX w.heap.size fn.ntmps w H s a w'->(match fn.results.toList with | [q]=>S.resultA P s q|rs=>match S.resultsA P s rs with|some us=>if us.length=1 then none else some (.tup us,none) | none=>none)=some (r,y) ->
   a.defers=[]/\∃v,(results fn a.tmps).run P w'=.ok v w'/\∃t i,Ending.returned v=.returned t/\Below w.heap.size w w'/\(∀b,b<w.heap.size->i b=H b)/\(∀b k,i b=some k->Bk w' b)/\RepV i w' r t/\∀z,y=some z->TailOk i w' w.heap.size z r t:=by
   rintro s a w' ⟨i,φ,g⟩ d;refine⟨g.defs,?_⟩
   split at d
   .rename_i q hq
    obtain⟨u,O,M,G⟩:=Zkp g d;have e:fn.results=#[q]:=by rw[<- Ybw (xs:=fn.results),hq]
    refine⟨u,?_,u,i,rfl,g.bel,g.old,g.bnd,M,G⟩;rw[Zko,Yai,Ydl,hq,Yds,List.mapM_nil];simp only[Yai,Sem.run_map,O,Y5,Yat];rfl
   .rename_i hne
    split at d
    .rename_i us hus
     split at d
     .cases d
     .rename_i h1
      simp only[Option.some.injEq,Prod.mk.injEq] at d;obtain⟨rfl,rfl⟩:=d;obtain⟨ws,x,E⟩:=Zi3 g hus;have T:=RepT.length E;refine⟨.tuple ws.toArray,?_,_,i,rfl,g.bel,g.old,g.bnd,by rw[RepV];exact⟨ws,rfl,E⟩,λ z L=>by cases L⟩;rw[Zko,Yai,Ydl];simp only[Sem.run_map,x,Y5,Yat];rw[dif_neg];rw[Yc0,T];exact h1
    .cases d
  split at h
  .cases h
  .rename_i ex ep s hne hcode
   refine Zsb (W:=W) (λ w' K=>p w w' n K) hcall D c 0 ep _ s ex hcode _ (λ a w' g=>?_) _ w ⟨H,_,J⟩;have:=A s a w' g h
   cases ex with
   | normal=>exact this
   | ret=>exact this
   | exit id=>exact(hne _ rfl).elim
  .cases h
 .cases h
theorem Zhj {W:World->Prop}(d:∀w w',W w->Below w.heap.size w w'->W w'){g:FuncId->List S.AV->Option (S.AV×S.Tail)}(b:∀f xs r y,g f xs=some (r,y)->AFn P W f xs r y){i:Nat} :
 ∀(n:Nat)(f:FuncId)(xs:List S.AV)(r:S.AV)(y:S.Tail),S.runFn P g i n f xs=some (r,y)->AFn P W f xs r y
 | 0,f,xs,r,y,h=>by simp[S.runFn] at h
 | n+1,f,xs,r,y,h=>by
  unfold S.runFn at h
  split at h
  .rename_i q hq
   cases h
   exact b f xs r y hq
  .split at h
   .rename_i fn hf
    split at h
    .rename_i c hc
     exact Zsc d (λ f xs r y h=>Zhj d b n f xs r y h) hf hc h
    .cases h
   .cases h
end
end
