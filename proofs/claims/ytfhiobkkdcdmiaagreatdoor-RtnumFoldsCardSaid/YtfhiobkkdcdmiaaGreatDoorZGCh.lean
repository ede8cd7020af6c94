/- Parts. -/
import Derived.Test.YtfhiobkkdcdmiaaGreatDoorZBWpL
import Derived.KernelRfl
set_option linter.all false
open Nat renaming le_refl->Yb,add_assoc->Ybo
open List renaming mem_cons_self->Yu,mem_cons_of_mem->Yw,mem_cons->Yz,cons_append->Yaa,mem_append_left->Ya5,nodup_cons->Yb7
namespace Go.Proofs.YtfhiobkkdcdmiaaGreatDoor
open Go.RowKit
namespace S
def eAdd (a b:BE):BE:=eB 1 a b
def eSub (a b:BE):BE:=eB 2 a b
def eAnd (a b:BE):BE:=eB 7 a b
def eLt (a b:BE):BE:=eB 14 a b
def eShr (a:BE)(n:Int):BE:=eB 11 a (eC n)
def eShl (a:BE)(n:Int):BE:=eB 10 a (eC n)
def eNot (a:BE):BE:=eQ a (eC 0)
def eW (n:Int):BE:=eM (eC n) 0
def eRef (a:BE):BE:=eB 8 (eShl a 2) (eC 1)
def eAdr (a:BE):BE:=eShr a 2
def sKeep (n:Int)(e:BE):BS:=sPut (eC n) 0 e
def sWhen (e:BE)(b:List BS):BS:=sIf e b []
def sVal (e:BE):BS:=sBk e
def isRef (a:BE):BE:=eQ (eAnd a (eC 3)) (eC 1)
def kMove:ByteArray:=⟨#[109,111,118,101]⟩
def kScan:ByteArray:=⟨#[115,99,97,110]⟩
def kFrame:ByteArray:=⟨#[102,114,97,109,101]⟩
def kCollect:ByteArray:=⟨#[99,111,108,108,101,99,116]⟩
def kReserve:ByteArray:=⟨#[114,101,115,101,114,118,101]⟩
def Z3y:ByteArray:=⟨#[99,111,110,115]⟩
def Zzx:ByteArray:=⟨#[98,101,103,105,110]⟩
def kStatic:ByteArray:=⟨#[115,116,97,116,105,99]⟩
def kCode:ByteArray:=⟨#[99,111,100,101]⟩
def kMore:ByteArray:=⟨#[109,111,114,101]⟩
def kEnd:ByteArray:=⟨#[101,110,100]⟩
def Z5v:ByteArray:=⟨#[109,97,105,110]⟩
def kF0:ByteArray:=⟨#[102,48]⟩
def kRt (n:Int):ByteArray:=⟨([114,116]++itoa n).toArray⟩
def rMove:BR:=⟨kMove,1,4,false,
 [sWhen (eNot (isRef (eL 0))) [sVal (eL 0)],
  sAs 1 (eAdr (eL 0)),
  sWhen (eNot (eLt (eSub (eL 1) (eW 2)) (eW 4))) [sVal (eL 0)],
  sAs 2 (eM (eL 1) 0),
  sWhen (isRef (eL 2)) [sVal (eL 2)],
  sAs 2 (eShr (eL 2) 5),
  sAs 3 (eC 0),
  sWh (eNot (eLt (eL 2) (eL 3))) [sPut (eAdd (eR 29) (eL 3)) 0 (eM (eAdd (eL 1) (eL 3)) 0),sAs 3 (eAdd (eL 3) (eC 1))],
  sPut (eL 1) 0 (eRef (eR 29)),
  sSet 29 (eAdd (eR 29) (eL 3)),
  sVal (eM (eL 1) 0)]⟩
def bScan:List BS:=[sPut (eL 0) 0 (eF kMove [eM (eL 0) 0]),sAs 0 (eAdd (eL 0) (eC 1))]
def rScan:BR:=⟨kScan,2,2,false,[sWh (eLt (eL 0) (eL 1)) bScan]⟩
def rFrame:BR:=⟨kFrame,1,5,false,
 [sAs 1 (eAdd (eL 0) (eM (eL 0) 0)),
  sAs 2 (eC 32),
  sWh (eLt (eL 0) (eL 1))
   [sAs 0 (eAdd (eL 0) (eC 1)),
    sAs 3 (eM (eL 0) 0),
    sWhen (eQ (eL 2) (eC 1056)) [sAs 2 (eA kMore)],
    sAs 4 (eAdd (eL 2) (eC 32)),
    sWh (eLt (eL 2) (eL 4))
     [sWhen (eAnd (eL 3) (eC 1)) [sDo (eF kScan [eL 2,eAdd (eL 2) (eC 1)])],
      sAs 3 (eShr (eL 3) 1),
      sAs 2 (eAdd (eL 2) (eC 1))]]]⟩
def rCollect:BR:=⟨kCollect,0,1,false,
 [sSet 29 (eW 3),
  sDo (eF kScan [eC 5,eC 6]),
  sDo (eF kScan [eC 16,eAdd (eC 16) (eW 8)]),
  sWhen (eW 6) [sDo (eF kFrame [eW 6])],
  sDo (eF kScan [eC 1312,eA kCode]),
  sAs 0 (eW 3),
  sWh (eLt (eL 0) (eR 29)) bScan,
  sAs 0 (eW 2),
  sKeep 2 (eW 3),
  sKeep 3 (eL 0),
  sSet 26 (eR 29),
  sSet 27 (eAdd (eW 2) (eW 4))]⟩
def eShort:BE:=eLt (eSub (eR 27) (eR 26)) (eL 0)
def rReserve:BR:=⟨kReserve,1,1,false,[sAs 0 (eAdd (eL 0) (eW 7)),sWhen eShort [sDo (eF kCollect []),sWhen eShort [sHlt (eC 255)]]]⟩
def Z5w:BR:=⟨Z3y,2,2,false,
 [sPut (eR 26) 0 (eC 67),sPut (eR 26) 1 (eL 0),sPut (eR 26) 2 (eL 1),sSet 26 (eAdd (eR 26) (eC 3)),sVal (eRef (eSub (eR 26) (eC 3)))]⟩
def Z3z (n:BE):List BS:=[sKeep 16 (eR 1),sKeep 23 (eR 10),sKeep 17 (eR 4),sKeep 18 (eR 5),sKeep 19 (eR 6),sKeep 20 (eR 7),sKeep 21 (eR 8),sKeep 22 (eR 9),sKeep 6 (eC 0),
 sIf (eLt (eC 6) n) [sKeep 8 (eC 8)] [sKeep 8 (eAdd n (eC 1))]]
def Zqx:List BS:=[sKeep 8 (eC 0),sRet [1,4,5,6,7,8,9,10] [eW 16,eW 17,eW 18,eW 19,eW 20,eW 21,eW 22,eW 23]]
def Z30:BR:=⟨kRt 100,0,2,false,[sAs 0 (eR 2),sAs 1 (eR 3)]++Z3z (eL 0)++[sDo (eF kReserve [eL 1])]++Zqx⟩
def Z1i (n from_ at_:BE)(atN locl:Int):List BS :=
 [sAs locl (eW 23),sKeep 23 (eRef (eR 26)),
  sWh n [sPut (eR 26) 0 (eC 67),sPut (eR 26) 1 (eM (eAdr from_) 1),sAs locl (eM (eAdr from_) 2),sSet 26 (eAdd (eR 26) (eC 3)),sPut (eSub (eR 26) (eC 3)) 2 (eRef (eR 26)),sAs atN (eSub at_ (eC 1))],
  sPut (eSub (eR 26) (eC 3)) 2 (eC 38)]
def Z5x:BR:=⟨kRt 101,0,5,false,
 [sAs 0 (eR 2),sAs 1 (eR 3),sAs 2 (eL 1)]++Z3z (eL 0) ++
 [sWhen (eLt (eC 6) (eL 2)) [sAs 2 (eC 6)],
  sAs 2 (eSub (eL 0) (eL 2)),
  sDo (eF kReserve [eAdd (eL 2) (eShl (eL 2) 1)]),
  sAs 2 (eC 0),
  sIf (eLt (eC 6) (eL 0)) (sAs 2 (eSub (eL 0) (eC 6))::Z1i (eL 2) (eL 3) (eL 2) 2 3) [sKeep 23 (eC 38)],
  sWhen (eLt (eL 1) (eC 6))
   [sAs 3 (eW 23),sAs 4 (eL 0),sWhen (eLt (eC 6) (eL 4)) [sAs 4 (eC 6)],
    sWh (eLt (eL 1) (eL 4)) [sAs 4 (eSub (eL 4) (eC 1)),sAs 3 (eF Z3y [eM (eAdd (eL 4) (eC 17)) 0,eL 3])],
    sPut (eAdd (eL 1) (eC 17)) 0 (eL 3)]]++Zqx⟩
def Zzy (v:BE):BE:=eAnd (eM (eAdr v) 0) (eC 31)
def Z31 (v:BE)(yes no:List BS):BS:=sIf (isRef v) [sIf (eQ (Zzy v) (eC 3)) yes no] no
def Z32:BR:=⟨kRt 102,0,6,false,
 [sAs 0 (eR 4),sAs 1 (eR 2),sAs 2 (eR 10),sAs 3 (eC 0),sAs 4 (eL 2),
  sWhen (eNot (isRef (eL 0))) [sHlt (eC 6)],
  sWhen (eNot (eQ (Zzy (eL 0)) (eC 11))) [sHlt (eC 6)],
  sAs 5 (eC 1),
  sWh (eL 5) [Z31 (eL 4) [sAs 3 (eAdd (eL 3) (eC 1)),sWhen (eLt (eC 1048576) (eL 3)) [sHlt (eC 3)],sAs 4 (eM (eAdr (eL 4)) 2)] [sAs 5 (eC 0)]],
  sWhen (eNot (eQ (eL 4) (eC 38))) [sHlt (eC 2)],
  sKeep 17 (eR 5),sKeep 18 (eR 6),sKeep 19 (eR 7),sKeep 20 (eR 8),sKeep 21 (eR 9),
  sAs 4 (eL 2),sAs 5 (eL 1),
  sWh (eLt (eL 5) (eC 6)) [Z31 (eL 4) [sPut (eAdd (eL 5) (eC 17)) 0 (eM (eAdr (eL 4)) 1),sAs 4 (eM (eAdr (eL 4)) 2)] [],sAs 5 (eAdd (eL 5) (eC 1))],
  sSet 1 (eL 0),sSet 2 (eAdd (eL 1) (eL 3)),sSet 10 (eL 4),
  sSet 4 (eW 17),sSet 5 (eW 18),sSet 6 (eW 19),sSet 7 (eW 20),sSet 8 (eW 21),sSet 9 (eW 22),
  sGo (eShr (eM (eAdr (eR 1)) 1) 2)]⟩
def Z33:BR:=⟨Zzx,0,1,false,
 [sKeep 4 (eShr (eW 1) 1),sKeep 2 (eA kEnd),sKeep 3 (eAdd (eW 2) (eW 4)),sKeep 6 (eC 0),sKeep 8 (eC 0),sAs 0 (eC 1312),
  sWh (eLt (eL 0) (eA kStatic)) [sPut (eL 0) 0 (eC 70),sAs 0 (eAdd (eL 0) (eC 1))],
  sSet 26 (eW 2),sSet 27 (eW 3),sSet 1 (eC 0),sSet 2 (eC 0),Z66 kF0]⟩
def Zyg (n code:Int):BR:=⟨kRt n,0,0,false,[sHlt (eC code)]⟩
def Z34:Obj:=⟨kStart,[bL kStart,bI 15 28 0 0 1056,bA 25 Zzx,bI 33 0 25 0 0]⟩
def oMain:Obj:=⟨Z5v,[bL kF0,bI 15 4 0 0 9,bI 36 0 4 0 0]⟩
def ofR (r:BR):Obj:=⟨r.name,bItems r⟩
def rs26:List BR:=[Z33,rMove,rScan,rFrame,rCollect,rReserve,Z5w,Z30,Z5x,Z32,Zyg 103 5,Zyg 104 2,Zyg 105 6,Zyg 106 0]
def objs26:List Obj:=Z34::rs26.map ofR
end S
namespace S
def kN (l:List UInt8):ByteArray:=⟨([110,117,109]++l).toArray⟩
def kNInt:ByteArray:=kN [105,110,116]
def kNLen:ByteArray:=kN [108,101,110]
def kNNeg:ByteArray:=kN [110,101,103]
def kNDig:ByteArray:=kN [100,105,103]
def kNCmp:ByteArray:=kN [99,109,112]
def kNFin:ByteArray:=kN [102,105,110]
def kNAdd:ByteArray:=kN [97,100,100]
def kNSub:ByteArray:=kN [115,117,98]
def kNSum:ByteArray:=kN [115,117,109]
def kNMul:ByteArray:=kN [109,117,108]
def kNTop:ByteArray:=kN [116,111,112]
def kNShl:ByteArray:=kN [115,104,108]
def kNTake:ByteArray:=kN [116,97,107,101]
def kNBack:ByteArray:=kN [98,97,99,107]
def kNDiv:ByteArray:=kN [100,105,118]
def eFix (v:BE):BE:=eNot (eAnd v (eC 3))
def sInc (n:Int):BS:=sAs n (eAdd (eL n) (eC 1))
def eDg (e:BE):BE:=eShl (eAnd e (eC 65535)) 2
def eH:BE:=eR 26
def rNInt:BR:=⟨kNInt,1,1,false,
 [sWhen (eFix (eL 0)) [sVal (eC 1)],
  sWhen (eNot (isRef (eL 0))) [sVal (eC 0)],
  sVal (eQ (eAnd (eM (eAdr (eL 0)) 0) (eC 31)) (eC 31))]⟩
def rNLen:BR:=⟨kNLen,1,1,false,
 [sWhen (eFix (eL 0)) [sVal (eC 2)],
  sVal (eSub (eShr (eM (eAdr (eL 0)) 0) 5) (eC 1))]⟩
def rNNeg:BR:=⟨kNNeg,1,1,false,
 [sWhen (eFix (eL 0)) [sVal (eShr (eL 0) 31)],
  sVal (eShr (eM (eAdr (eL 0)) 1) 2)]⟩
def rNDig:BR:=⟨kNDig,2,3,false,
 [sIf (eFix (eL 0))
  [sAs 2 (eB 12 (eL 0) (eC 2)),
   sWhen (eShr (eL 0) 31) [sAs 2 (eSub (eC 0) (eL 2))],
   sWhen (eNot (eL 1)) [sVal (eAnd (eL 2) (eC 65535))],
   sWhen (eQ (eL 1) (eC 1)) [sVal (eShr (eL 2) 16)]]
  [sWhen (eLt (eL 1) (eF kNLen [eL 0])) [sVal (eShr (eM (eAdd (eAdr (eL 0)) (eL 1)) 2) 2)]],
  sVal (eC 0)]⟩
def rNCmp:BR:=⟨kNCmp,2,5,false,
 [sAs 2 (eAdd (eF kNLen [eL 0]) (eF kNLen [eL 1])),
  sWh (eL 2)
   [sAs 2 (eSub (eL 2) (eC 1)),
    sAs 3 (eF kNDig [eL 0,eL 2]),
    sAs 4 (eF kNDig [eL 1,eL 2]),
    sWhen (eLt (eL 3) (eL 4)) [sVal (eC 0)],
    sWhen (eLt (eL 4) (eL 3)) [sVal (eC 2)]],
  sVal (eC 1)]⟩
def rNFin:BR:=⟨kNFin,2,4,false,
 [sAs 3 (eC 1),
  sWh (eL 3)
   [sAs 3 (eC 0),
    sWhen (eL 1) [sWhen (eNot (eM (eAdd eH (eL 1)) 1)) [sAs 1 (eSub (eL 1) (eC 1)),sAs 3 (eC 1)]]],
  sAs 2 (eC 0),
  sWhen (eL 1) [sAs 2 (eShr (eM eH 2) 2)],
  sWhen (eQ (eL 1) (eC 2)) [sAs 2 (eB 8 (eL 2) (eShl (eM eH 3) 14))],
  sWhen (eLt (eL 1) (eC 3))
   [sWhen (eLt (eL 2) (eAdd (eC 536870912) (eL 0)))
    [sWhen (eL 0) [sAs 2 (eSub (eC 0) (eL 2))],
     sVal (eShl (eL 2) 2)]],
  sPut eH 0 (eB 8 (eShl (eAdd (eL 1) (eC 1)) 5) (eC 31)),
  sPut eH 1 (eShl (eL 0) 2),
  sSet 26 (eAdd (eAdd eH (eL 1)) (eC 2)),
  sVal (eRef (eSub (eSub eH (eL 1)) (eC 2)))]⟩
def rNAdd:BR:=⟨kNAdd,3,6,false,
 [sAs 3 (eC 0),
  sAs 4 (eF kNLen [eL 0]),
  sWhen (eLt (eL 4) (eF kNLen [eL 1])) [sAs 4 (eF kNLen [eL 1])],
  sAs 5 (eC 0),
  sWh (eLt (eL 3) (eL 4))
   [sAs 5 (eAdd (eL 5) (eAdd (eF kNDig [eL 0,eL 3]) (eF kNDig [eL 1,eL 3]))),
    sPut (eAdd eH (eL 3)) 2 (eDg (eL 5)),
    sAs 5 (eShr (eL 5) 16),
    sInc 3],
  sPut (eAdd eH (eL 4)) 2 (eDg (eL 5)),
  sVal (eF kNFin [eL 2,eAdd (eL 4) (eC 1)])]⟩
def rNSub:BR:=⟨kNSub,3,6,false,
 [sAs 3 (eC 0),
  sAs 4 (eF kNLen [eL 0]),
  sAs 5 (eC 0),
  sWh (eLt (eL 3) (eL 4))
   [sAs 5 (eSub (eAdd (eC 65536) (eF kNDig [eL 0,eL 3])) (eAdd (eF kNDig [eL 1,eL 3]) (eL 5))),
    sPut (eAdd eH (eL 3)) 2 (eDg (eL 5)),
    sAs 5 (eSub (eC 1) (eShr (eL 5) 16)),
    sInc 3],
  sVal (eF kNFin [eL 2,eL 4])]⟩
def rNSum:BR:=⟨kNSum,3,5,false,
 [sAs 3 (eF kNNeg [eL 0]),
  sAs 4 (eB 9 (eF kNNeg [eL 1]) (eL 2)),
  sWhen (eQ (eL 3) (eL 4)) [sVal (eF kNAdd [eL 0,eL 1,eL 3])],
  sWhen (eF kNCmp [eL 0,eL 1]) [sVal (eF kNSub [eL 0,eL 1,eL 3])],
  sVal (eF kNSub [eL 1,eL 0,eL 4])]⟩
def eCell:BE:=eAdd eH (eAdd (eL 2) (eL 3))
def rNMul:BR:=⟨kNMul,2,7,false,
 [sAs 6 (eAdd (eF kNLen [eL 0]) (eF kNLen [eL 1])),
  sAs 2 (eC 0),
  sWh (eLt (eL 2) (eL 6)) [sPut (eAdd eH (eL 2)) 2 (eC 0),sInc 2],
  sAs 2 (eC 0),
  sWh (eLt (eL 2) (eF kNLen [eL 0]))
   [sAs 4 (eF kNDig [eL 0,eL 2]),
    sAs 5 (eC 0),
    sAs 3 (eC 0),
    sWh (eLt (eL 3) (eF kNLen [eL 1]))
     [sAs 5 (eAdd (eAdd (eL 5) (eShr (eM eCell 2) 2)) (eB 3 (eL 4) (eF kNDig [eL 1,eL 3]))),
      sPut eCell 2 (eDg (eL 5)),
      sAs 5 (eShr (eL 5) 16),
      sInc 3],
    sPut eCell 2 (eDg (eL 5)),
    sInc 2],
  sVal (eF kNFin [eB 9 (eF kNNeg [eL 0]) (eF kNNeg [eL 1]),eL 6])]⟩
def rNTop:BR:=⟨kNTop,1,3,false,
 [sAs 1 (eF kNLen [eL 0]),
  sAs 2 (eC 1),
  sWh (eL 2)
   [sAs 2 (eC 0),
    sWhen (eL 1) [sWhen (eNot (eF kNDig [eL 0,eSub (eL 1) (eC 1)])) [sAs 1 (eSub (eL 1) (eC 1)),sAs 2 (eC 1)]]],
  sVal (eL 1)]⟩
def rNShl:BR:=⟨kNShl,4,6,false,
 [sAs 4 (eC 0),
  sAs 5 (eC 0),
  sWh (eLt (eL 4) (eL 1))
   [sAs 5 (eB 8 (eL 5) (eB 10 (eF kNDig [eL 0,eL 4]) (eL 2))),
    sPut (eAdd (eL 3) (eL 4)) 0 (eAnd (eL 5) (eC 65535)),
    sAs 5 (eShr (eL 5) 16),
    sInc 4],
  sPut (eAdd (eL 3) (eL 1)) 0 (eL 5),
  sVal (eC 0)]⟩
def rNTake:BR:=⟨kNTake,4,8,false,
 [sAs 4 (eC 0),
  sAs 5 (eC 0),
  sAs 6 (eC 0),
  sWh (eLt (eL 4) (eL 2))
   [sAs 7 (eAdd (eL 5) (eB 3 (eL 3) (eM (eAdd (eL 1) (eL 4)) 0))),
    sAs 5 (eShr (eL 7) 16),
    sAs 7 (eSub (eAdd (eC 65536) (eM (eAdd (eL 0) (eL 4)) 0)) (eAdd (eAnd (eL 7) (eC 65535)) (eL 6))),
    sPut (eAdd (eL 0) (eL 4)) 0 (eAnd (eL 7) (eC 65535)),
    sAs 6 (eSub (eC 1) (eShr (eL 7) 16)),
    sInc 4],
  sAs 7 (eSub (eAdd (eC 65536) (eM (eAdd (eL 0) (eL 2)) 0)) (eAdd (eL 5) (eL 6))),
  sPut (eAdd (eL 0) (eL 2)) 0 (eAnd (eL 7) (eC 65535)),
  sVal (eSub (eC 1) (eShr (eL 7) 16))]⟩
def rNBack:BR:=⟨kNBack,3,5,false,
 [sAs 3 (eC 0),
  sAs 4 (eC 0),
  sWh (eLt (eL 3) (eL 2))
   [sAs 4 (eAdd (eL 4) (eAdd (eM (eAdd (eL 0) (eL 3)) 0) (eM (eAdd (eL 1) (eL 3)) 0))),
    sPut (eAdd (eL 0) (eL 3)) 0 (eAnd (eL 4) (eC 65535)),
    sAs 4 (eShr (eL 4) 16),
    sInc 3],
  sAs 4 (eAdd (eL 4) (eM (eAdd (eL 0) (eL 2)) 0)),
  sPut (eAdd (eL 0) (eL 2)) 0 (eAnd (eL 4) (eC 65535)),
  sVal (eShr (eL 4) 16)]⟩
def eAt:BE:=eAdd (eL 6) (eL 8)
def eTop:BE:=eB 8 (eShl (eM (eAdd eAt (eL 4)) 0) 16) (eM (eAdd eAt (eL 4)) (-1))
def rNDiv:BR:=⟨kNDiv,3,11,false,
 [sWhen (eNot (eF kNCmp [eL 0,eL 1]))
  [sWhen (eL 2) [sVal (eF kNAdd [eL 0,eC 0,eF kNNeg [eL 0]])],
   sVal (eC 0)],
  sAs 3 (eF kNTop [eL 0]),
  sAs 4 (eF kNTop [eL 1]),
  sAs 5 (eC 0),
  sAs 9 (eF kNDig [eL 1,eSub (eL 4) (eC 1)]),
  sWh (eLt (eB 10 (eL 9) (eL 5)) (eC 32768)) [sInc 5],
  sAs 6 (eAdd (eAdd eH (eL 3)) (eC 4)),
  sAs 7 (eAdd (eAdd (eL 6) (eL 3)) (eC 1)),
  sDo (eF kNShl [eL 0,eL 3,eL 5,eL 6]),
  sDo (eF kNShl [eL 1,eL 4,eL 5,eL 7]),
  sAs 8 (eAdd (eSub (eL 3) (eL 4)) (eC 1)),
  sWh (eL 8)
   [sAs 8 (eSub (eL 8) (eC 1)),
    sAs 9 (eB 5 eTop (eM (eAdd (eL 7) (eL 4)) (-1))),
    sWhen (eLt (eC 65535) (eL 9)) [sAs 9 (eC 65535)],
    sAs 10 (eF kNTake [eAt,eL 7,eL 4,eL 9]),
    sWh (eL 10)
     [sAs 9 (eSub (eL 9) (eC 1)),
      sWhen (eF kNBack [eAt,eL 7,eL 4]) [sAs 10 (eC 0)]],
    sPut (eAdd eH (eL 8)) 2 (eDg (eL 9))],
  sWhen (eNot (eL 2)) [sVal (eF kNFin [eB 9 (eF kNNeg [eL 0]) (eF kNNeg [eL 1]),eAdd (eSub (eL 3) (eL 4)) (eC 1)])],
  sAs 8 (eC 0),
  sWh (eLt (eL 8) (eL 4))
   [sAs 9 (eB 8 (eShl (eM (eAdd eAt (eC 1)) 0) 16) (eM eAt 0)),
    sPut (eAdd eH (eL 8)) 2 (eDg (eB 11 (eL 9) (eL 5))),
    sInc 8],
  sVal (eF kNFin [eF kNNeg [eL 0],eL 4])]⟩
def bTypes:List BS:=[sWhen (eNot (eF kNInt [eL 0])) [sHlt (eC 2)],sWhen (eNot (eF kNInt [eL 1])) [sHlt (eC 2)]]
def bNRoom:List BS :=
 [sKeep 16 (eL 0),sKeep 17 (eL 1),sKeep 8 (eC 2),sKeep 6 eK,
  sAs 2 (eAdd (eF kNLen [eL 0]) (eF kNLen [eL 1])),
  sDo (eF kReserve [eAdd (eAdd (eL 2) (eShl (eL 2) 1)) (eC 20)]),
  sAs 0 (eW 16),sAs 1 (eW 17),sKeep 8 (eC 0),sKeep 6 (eC 0)]
def Z1j (op:Int)(l:List BS):BR:=⟨kRt op,2,3,true,bTypes++l⟩
def Z1k (op:Int)(ahead:List BS)(v:BE):BR:=Z1j op (ahead++(bNRoom++[sVal v]))
def Z5y:List BS:=[sWhen (eNot (eL 1)) [sHlt (eC 4)]]
def Zqy (e:BE):BS:=sIf e [sVal (eC 22)] [sVal (eC 6)]
def Zzz:BE:=eQ (eF kNNeg [eL 0]) (eF kNNeg [eL 1])
def Z67:BR:=Z1j 13 [Zqy (eAnd Zzz (eQ (eF kNCmp [eL 0,eL 1]) (eC 1)))]
def Z35:BR:=Z1j 14
 [sWhen (eNot Zzz) [Zqy (eF kNNeg [eL 0])],
  sWhen (eF kNNeg [eL 0]) [Zqy (eQ (eF kNCmp [eL 0,eL 1]) (eC 2))],
  Zqy (eNot (eF kNCmp [eL 0,eL 1]))]
def rPAdd (k:Int):BR:=Z1k (8+k) [] (eF kNSum [eL 0,eL 1,eC k])
def rPQuo (k:Int):BR:=Z1k (11+k) Z5y (eF kNDiv [eL 0,eL 1,eC k])
def rPMul:BR:=Z1k 10 [] (eF kNMul [eL 0,eL 1])
def rs27:List BR:=[rNInt,rNLen,rNNeg,rNDig,rNCmp,rNFin,rNAdd,rNSub,rNSum,rNMul,rNTop,rNShl,rNTake,rNBack,rNDiv,rPAdd 0,rPQuo 0,rPAdd 1,rPQuo 1,rPMul,Z67,Z35]
def objs27:List Obj:=rs27.map ofR
end S
section
namespace S
mutual
def pureE:BE->Bool
 | .mk op _ _ kids=>decide (op=1\/op=2\/op=3\/op=4\/op=5\/op=7\/op=9\/op=10) && pureEs kids
def pureEs:List BE->Bool
 | []=>true
 | e::r=>pureE e && pureEs r
end
def opV (I:Img)(lk:Int)(op n:Int)(name:ByteArray)(env vs:List Int)(st:Vw):Int :=
 if op=1 then n%4294967296 else if op=2 then env.getD n.toNat 0 else if op=3 then st.reg n else if op=4 then alu n (vs.getD 0 0) (vs.getD 1 0)
 else if op=5 then st.mem (u32m (vs.getD 0 0+n)) else if op=7 then(if vs.getD 0 0=vs.getD 1 0 then 1 else 0) else if op=9 then I.lab name else lk
def opOk (I:Img)(op n:Int)(vs:List Int):Prop :=
 if op=4 then(vs.getD 1 0=0->n≠5/\n≠6) else if op=5 then u32m (vs.getD 0 0+n)<I.size/\¬I.stk (u32m (vs.getD 0 0+n)) else True
def opC (op:Int):Nat:=if op=1\/op=9 then 2 else if op=7 then 3 else 1
mutual
def evE (I:Img)(lk:Int)(env:List Int)(st:Vw):BE->Int
 | .mk op n name kids=>opV I lk op n name env (evEs I lk env st kids) st
def evEs (I:Img)(lk:Int)(env:List Int)(st:Vw):List BE->List Int
 | []=>[]
 | e::r=>evE I lk env st e::evEs I lk env st r
end
mutual
def okE (I:Img)(lk:Int)(env:List Int)(st:Vw):BE->Prop
 | .mk op n name kids=>okEs I lk env st kids/\opOk I op n (evEs I lk env st kids)
def okEs (I:Img)(lk:Int)(env:List Int)(st:Vw):List BE->Prop
 | []=>True
 | e::r=>okE I lk env st e/\okEs I lk env st r
end
mutual
def coE:BE->Nat
 | .mk op _ _ kids=>coEs kids+opC op
def coEs:List BE->Nat
 | []=>0
 | e::r=>coE e+coEs r
end
end S
section
variable {I:S.Img}{dep lk:Int}
mutual
theorem Zbt:∀{e:S.BE} {env:List Int} {at_:Nat} {st:S.Vw} {c:Nat} {Q H:Int->S.Vw->Nat->Prop},S.pureE e=true->S.okE I lk env st e->Q (S.evE I lk env st e) st (c+S.coE e)->S.wpE I dep lk env e at_ st c Q H
 | .mk op n name kids,env,at_,st,c,Q,H,hp,hok,hQ=>by
  simp only[S.pureE,Bool.and_eq_true,decide_eq_true_eq] at hp;obtain⟨hop,hpk⟩:=hp;rw[S.okE] at hok;rw[S.evE,S.coE] at hQ;rw[Zfy];refine Zin hpk hok.1 ?_;have hok2:=hok.2;unfold S.opOk at hok2;unfold S.opV S.opC at hQ;unfold S.wpOp;rw[<- Ybo] at hQ;rcases hop with rfl|rfl|rfl|rfl|rfl|rfl|rfl|rfl
  .exact hQ
  .exact hQ
  .exact hQ
  .exact⟨hok2,hQ⟩
  .exact⟨hok2.1,hok2.2,hQ⟩
  .exact hQ
  .exact hQ
  .exact hQ
theorem Zin:∀{l:List S.BE} {env:List Int} {at_:Nat} {st:S.Vw} {c:Nat} {Q:List Int->S.Vw->Nat->Prop} {H:Int->S.Vw->Nat->Prop},S.pureEs l=true->S.okEs I lk env st l->Q (S.evEs I lk env st l) st (c+S.coEs l)->S.wpEs I dep lk env l at_ st c Q H
 | [],env,at_,st,c,Q,H,_,_,hQ=>by
  rw[S.wpEs];exact hQ
 | e::r,env,at_,st,c,Q,H,hp,hok,hQ=>by
  simp only[S.pureEs,Bool.and_eq_true] at hp;rw[S.okEs] at hok;rw[S.evEs,S.coEs] at hQ;rw[S.wpEs];refine Zbt hp.1 hok.1 (Zin hp.2 hok.2 ?_);rw[Ybo];exact hQ
end
section
variable {env:List Int}{st:S.Vw}
theorem Z6n (n:Int):S.evE I lk env st (S.eC n)=n%4294967296:=rfl
theorem Z68 (a:S.BE)(n:Int):S.evE I lk env st (S.eM a n)=st.mem (S.u32m (S.evE I lk env st a+n)):=rfl
theorem Ze3 (n:Int):S.okE I lk env st (S.eC n):=⟨trivial,trivial⟩
theorem Zcz (n:Int):S.okE I lk env st (S.eL n):=⟨trivial,trivial⟩
theorem Z1l (n:Int):S.okE I lk env st (S.eR n):=⟨trivial,trivial⟩
theorem Z69 (s:ByteArray):S.okE I lk env st (S.eA s):=⟨trivial,trivial⟩
theorem Zfd {op:Int}{a b:S.BE}(ho:op≠5/\op≠6)(ha:S.okE I lk env st a)(hb:S.okE I lk env st b):S.okE I lk env st (S.eB op a b):=⟨⟨ha,hb,trivial⟩,λ _=>ho⟩
theorem Z1m {a b:S.BE}(ha:S.okE I lk env st a)(hb:S.okE I lk env st b):S.okE I lk env st (S.eQ a b):=⟨⟨ha,hb,trivial⟩,trivial⟩
theorem Z29 {a:S.BE}{n:Int}(ha:S.okE I lk env st a)(h:S.u32m (S.evE I lk env st a+n)<I.size/\¬I.stk (S.u32m (S.evE I lk env st a+n))):S.okE I lk env st (S.eM a n):=⟨⟨ha,trivial⟩,h⟩
end
section
variable {behind:Bool}{env:List Int}{st:S.Vw}{c:Nat}{Q:List Int->S.Vw->Nat->Prop}{R:S.BO->Nat->Prop}
theorem Ze4 {n:Int}{e:S.BE}{r:List S.BS}(hp:S.pureE e=true)(hok:S.okE I lk env st e)(h:S.wpSs I dep lk behind r (env.set n.toNat (S.evE I lk env st e)) st (c+S.coE e+1) Q R):S.wpSs I dep lk behind (S.sAs n e::r) env st c Q R:=by
 rw[Zbs,Zuh];exact Zbt hp hok h
theorem Zqz {n:Int}{e:S.BE}{r:List S.BS}(hp:S.pureE e=true)(hok:S.okE I lk env st e)(h:S.wpSs I dep lk behind r env (st.set n (S.evE I lk env st e)) (c+S.coE e+1) Q R):S.wpSs I dep lk behind (S.sSet n e::r) env st c Q R:=by
 rw[Zbs,Zuk];exact Zbt hp hok h
theorem Zq0 {a e:S.BE}{n:Int}{r:List S.BS}(hpa:S.pureE a=true)(hoka:S.okE I lk env st a)(hp:S.pureE e=true)(hok:S.okE I lk env st e){p:Int}(hpe:S.u32m (S.evE I lk env st a+n)=p)
 (h1:p<I.size/\¬I.stk p/\¬I.code p) (h:S.wpSs I dep lk behind r env (st.sto p (S.evE I lk env st e)) (c+S.coE a+S.coE e+1) Q R):S.wpSs I dep lk behind (S.sPut a n e::r) env st c Q R:=by
 subst hpe;rw[Zbs,Zpl];exact Zbt hpa hoka (Zbt hp hok ⟨h1.1,h1.2.1,h1.2.2,h⟩)
theorem Zlh {e:S.BE}{b l r:List S.BS}(hp:S.pureE e=true)(hok:S.okE I lk env st e)(h0:S.evE I lk env st e=0->S.wpSs I dep lk behind l env st (c+S.coE e+4) (λ env st c=>S.wpSs I dep lk behind r env st c Q R) R)
 (h1:S.evE I lk env st e≠0->S.wpSs I dep lk behind b env st (c+S.coE e+4) (λ env st c=>S.wpSs I dep lk behind r env st (c+3) Q R) R):S.wpSs I dep lk behind (S.sIf e b l::r) env st c Q R:=by
 rw[Zbs,Zui];refine Zbt hp hok ?_
 split
 .rename_i h;exact h0 h
 .rename_i h;exact h1 h
theorem Zuo {e:S.BE}{b r:List S.BS}(hp:S.pureE e=true)(J:List Int->S.Vw->Nat->Nat->Prop){k0:Nat}(h0:J env st c k0)
 (hJ:∀env st c k,J env st c k->S.okE I lk env st e/\(S.evE I lk env st e=0->S.wpSs I dep lk behind r env st (c+S.coE e+4) Q R) /\
  (S.evE I lk env st e≠0->S.wpSs I dep lk behind b env st (c+S.coE e+4) (λ Zjx st2 c2=>∃k2,k2<k/\J Zjx st2 (c2+3) k2) R)):S.wpSs I dep lk behind (S.sWh e b::r) env st c Q R:=by
 rw[Zbs,Zzt];refine⟨J,⟨k0,h0⟩,λ env st c k h=>?_⟩;obtain⟨h1,h2,h3⟩:=hJ env st c k h;refine Zbt hp h1 ?_
 split
 .rename_i h;exact h2 h
 .rename_i h;exact h3 h
theorem Zq1 {e:S.BE}{r:List S.BS}(hp:S.pureE e=true)(hok:S.okE I lk env st e)(h:R (.ret (st.set 4 (S.evE I lk env st e))) (c+S.coE e+1+(if behind=true then 5 else 3))):S.wpSs I dep lk behind (S.sVal e::r) env st c Q R:=by
 rw[Zbs,S.sVal,Zuj];exact Zbt hp hok h
theorem Z36 {e:S.BE}{r:List S.BS}(hp:S.pureE e=true)(hok:S.okE I lk env st e)(h:R (.halt (S.evE I lk env st e) st) (c+S.coE e+1)):S.wpSs I dep lk behind (S.sHlt e::r) env st c Q R:=by
 rw[Zbs,Z1f];exact Zbt hp hok h
theorem Zbm (h:Q env st c):S.wpSs I dep lk behind [] env st c Q R:=by
 rw[Zug];exact h
theorem Z1n {name:ByteArray}{l:List S.BE}{r:List S.BS}(hp:S.pureEs l=true)(hok:S.okEs I lk env st l){d:Int}{T:Int->S.BO->Nat->Prop}(hreal:S.Real I name false (st.args (S.evEs I lk env st l)) d T)(hd:d<=dep)
 (h:∀ret o k,T ret o k->(match o with
  | .ret st2=>S.wpSs I dep lk behind r env st2 (c+S.coEs l+2*0+(S.evEs I lk env st l).length+4+k) Q R
  | .halt code st2=>R (.halt code st2) (c+S.coEs l+2*0+(S.evEs I lk env st l).length+4+k)
  | .left _ _=>False)):S.wpSs I dep lk behind (S.sDo (S.eF name l)::r) env st c Q R:=by
 rw[Zbs,Zzu,Zpk];refine Zin hp hok ⟨d,T,hreal,hd,λ ret o k hT=>?_⟩;have:=h ret o k hT
 cases o <;> exact this
end
end
theorem Zht {x:Int}(i:Nat)(m:Int)(hm:m=2^i-1)(hi:i<=32)(h0:0<=x)(h1:x<4294967296):S.alu 7 x m=x%(m+1):=by
 show bits .and .u32 x m=_
 exact Z0 i x (m+1) m (by omega) (by omega) hi h0 h1
theorem Z37 {x:Int}(h0:0<=x)(h1:x<4294967296):S.alu 7 x (3%4294967296)=x%4:=Zht 2 3 (by decide) (by decide) h0 h1
theorem Z5z {x:Int}(h0:0<=x)(h1:x<4294967296):S.alu 7 x (31%4294967296)=x%32:=Zht 5 31 (by decide) (by decide) h0 h1
theorem Z7a {x:Int}(h0:0<=x)(h1:x<4294967296):S.alu 7 x (1%4294967296)=x%2:=Zht 1 1 (by decide) (by decide) h0 h1
theorem Z3a (x:Int):S.alu 11 x (2%4294967296)=x/4:=rfl
theorem Z6o (x:Int):S.alu 11 x (5%4294967296)=x/32:=rfl
theorem Z7b (x:Int):S.alu 11 x (1%4294967296)=x/2:=rfl
theorem Z3b (x:Int):S.alu 10 x (2%4294967296)=S.u32m (x*4):=rfl
theorem Z7c (x:Int):S.alu 10 x (1%4294967296)=S.u32m (x*2):=rfl
theorem Zat (x y:Int):S.alu 1 x y=S.u32m (x+y):=rfl
theorem Zjw (x y:Int):S.alu 2 x y=S.u32m (x-y):=rfl
theorem Zcg (x y:Int):S.alu 14 x y=if x<y then 1 else 0:=by
 show S.truth (x<y)=_
 unfold S.truth
 split <;> simp_all
theorem or1 {x:Int}(h0:0<=x)(h1:x<4294967296)(h:x%4=0):S.alu 8 x (1%4294967296)=x+1:=by
 show bits .or .u32 x 1=_
 exact Zw 2 x 1 4 (by decide) h0 h h1 (by decide) (by decide) (by decide)
end
section
namespace S
structure Sim (st st1:Vw):Prop where
 mem:st1.mem=st.mem
 reg:∀j,¬(4<=j/\j<=7)->st1.reg j=st.reg j
 inp:st1.inp=st.inp
 out:st1.out=st.out
mutual
def dE:BE->Nat
 | .mk _ _ _ kids=>dEs kids
def dEs:List BE->Nat
 | []=>0
 | e::r=>max (dE e) (dEs r+1)
end
def Yl (I:Img)(dep lk:Int)(env:List Int)(st:Vw)(e:BE)(x:Int)(K:Nat):Prop :=
 ∀(at_:Nat)(st1:Vw)(c:Nat)(Q H:Int->Vw->Nat->Prop),at_+dE e<=20->Sim st st1->(∀st2 c2,Sim st st2->c2<=c+K->Q x st2 c2)->wpE I dep lk env e at_ st1 c Q H
def Yls (I:Img)(dep lk:Int)(env:List Int)(st:Vw)(l:List BE)(xs:List Int)(K:Nat):Prop :=
 ∀(at_:Nat)(st1:Vw)(c:Nat)(Q:List Int->Vw->Nat->Prop)(H:Int->Vw->Nat->Prop),at_+dEs l<=20->Sim st st1->(∀st2 c2,Sim st st2->c2<=c+K->Q xs st2 c2)->wpEs I dep lk env l at_ st1 c Q H
def RetN (st:Vw)(x:Int)(K:Nat)(o:BO)(k:Nat):Prop:=∃st',o=.ret st'/\st'.reg 4=x/\Sim st st'/\k<=K
def Tells (I:Img)(name:ByteArray)(st:Vw)(xs:List Int)(d:Int)(x:Int)(K:Nat):Prop :=
 ∀st1,Sim st st1->Real I name false (st1.args xs) d (λ _ o k=>RetN st x K o k)
def WS (I:Img)(dep lk:Int)(behind:Bool)(l:List BS)(env:List Int)(st:Vw)(C:Nat)(Q:List Int->Vw->Nat->Prop)(R:BO->Nat->Prop):Prop :=
 ∀st1 c,Sim st st1->c<=C->wpSs I dep lk behind l env st1 c Q R
end S
theorem S.Sim.refl (st:S.Vw):S.Sim st st:=⟨rfl,λ _ _=>rfl,rfl,rfl⟩
theorem S.Sim.trans {a b c:S.Vw}(h:S.Sim a b)(k:S.Sim b c):S.Sim a c:=⟨k.mem.trans h.mem,λ j hj=>(k.reg j hj).trans (h.reg j hj),k.inp.trans h.inp,k.out.trans h.out⟩
theorem S.Sim.sto {a b:S.Vw}(h:S.Sim a b)(p x:Int):S.Sim (a.sto p x) (b.sto p x):=⟨by
 funext y
 show(if y=p then x else b.mem y)=if y=p then x else a.mem y
 rw[h.mem],h.reg,h.inp,h.out⟩
theorem S.Sim.set {a b:S.Vw}(h:S.Sim a b)(p x:Int):S.Sim (a.set p x) (b.set p x):=⟨h.mem,λ j hj=>by
 show(if j=p then x else b.reg j)=if j=p then x else a.reg j
 rw[h.reg j hj],h.inp,h.out⟩
theorem S.Sim.set4 {a b:S.Vw}(h:S.Sim a b)(x:Int):S.Sim a (b.set 4 x):=⟨h.mem,λ j hj=>by
 show(if j=4 then x else b.reg j)=_
 rw[if_neg (by omega)];exact h.reg j hj,h.inp,h.out⟩
theorem S.Sim.args {a b:S.Vw}(h:S.Sim a b){xs:List Int}(hl:xs.length<=4):S.Sim a (b.args xs):=⟨h.mem,λ j hj=>by
 show(if 4<=j/\j<4+(xs.length:Int) then _ else b.reg j)=_
 rw[if_neg (by omega)];exact h.reg j hj,h.inp,h.out⟩
section
variable {I:S.Img}{dep lk:Int}{env:List Int}{st:S.Vw}
theorem Zp (n:Int):S.Yl I dep lk env st (S.eC n) (n%4294967296) 2:=λ at_ st1 c Q H _ hs h=>by
 rw[Z5n];exact h _ _ hs (Yb _)
theorem Zs (n:Int):S.Yl I dep lk env st (S.eL n) (env.getD n.toNat 0) 1:=λ at_ st1 c Q H _ hs h=>by
 rw[Z5o];exact h _ _ hs (Yb _)
theorem Zxj {n:Int}(hn:¬(4<=n/\n<=7)):S.Yl I dep lk env st (S.eR n) (st.reg n) 1:=λ at_ st1 c Q H _ hs h=>by
 rw[Z5p,hs.reg n hn];exact h _ _ hs (Yb _)
theorem Z7d:S.Yl I dep lk env st S.eK lk 1:=λ at_ st1 c Q H _ hs h=>by
 rw[Z5t];exact h _ _ hs (Yb _)
theorem S.Yl.to_ {e:S.BE}{x y:Int}{K K':Nat}(h:S.Yl I dep lk env st e x K)(hx:x=y)(hK:K<=K'):S.Yl I dep lk env st e y K':=λ at_ st1 c Q H ha hs hq=>by
 subst hx;exact h at_ st1 c Q H ha hs λ st2 c2 h2 hc=>hq st2 c2 h2 (by omega)
theorem Z6p (op n:Int)(nm:ByteArray)(a b:S.BE):S.dE (.mk op n nm [a,b])=max (S.dE a) (max (S.dE b) 1+1):=by
 rw[S.dE,S.dEs,S.dEs,S.dEs]
theorem Z7e (op n:Int)(nm:ByteArray)(a:S.BE):S.dE (.mk op n nm [a])=max (S.dE a) 1:=by
 rw[S.dE,S.dEs,S.dEs]
theorem Z38 {op:Int}{a b:S.BE}{x y:Int}{Ka Kb:Nat}(ho:y=0->op≠5/\op≠6)(ha:S.Yl I dep lk env st a x Ka)(hb:S.Yl I dep lk env st b y Kb):S.Yl I dep lk env st (S.eB op a b) (S.alu op x y) (Ka+Kb+1):=λ at_ st1 c Q H hat hs h=>by
 have hd:S.dE (S.eB op a b)=_:=Z6p _ _ _ a b;rw[hd] at hat;rw[Z5q];exact ha at_ st1 c _ _ (by omega) hs λ st2 c2 h2 hc2=>hb (at_+1) st2 c2 _ _ (by omega) h2 λ st3 c3 h3 hc3=>⟨ho,h st3 (c3+1) h3 (by omega)⟩
theorem Zn {op:Int}{a b:S.BE}{x y:Int}{Ka Kb:Nat}(ho:op≠5/\op≠6)(ha:S.Yl I dep lk env st a x Ka)(hb:S.Yl I dep lk env st b y Kb):S.Yl I dep lk env st (S.eB op a b) (S.alu op x y) (Ka+Kb+1):=Z38 (λ _=>ho) ha hb
theorem Zow {a b:S.BE}{x y:Int}{Ka Kb:Nat}(ha:S.Yl I dep lk env st a x Ka)(hb:S.Yl I dep lk env st b y Kb):S.Yl I dep lk env st (S.eQ a b) (if x=y then 1 else 0) (Ka+Kb+3):=λ at_ st1 c Q H hat hs h=>by
 have hd:S.dE (S.eQ a b)=_:=Z6p _ _ _ a b;rw[hd] at hat;rw[Z5s];exact ha at_ st1 c _ _ (by omega) hs λ st2 c2 h2 hc2=>hb (at_+1) st2 c2 _ _ (by omega) h2 λ st3 c3 h3 hc3=>h st3 (c3+3) h3 (by omega)
theorem Zli {a:S.BE}{n x p:Int}{K:Nat}(ha:S.Yl I dep lk env st a x K)(hp:S.u32m (x+n)=p)(hd:p<I.size/\¬I.stk p):S.Yl I dep lk env st (S.eM a n) (st.mem p) (K+1):=λ at_ st1 c Q H hat hs h=>by
 have hd2:S.dE (S.eM a n)=_:=Z7e _ _ _ a;rw[hd2] at hat;rw[Z5r];refine ha at_ st1 c _ _ (by omega) hs λ st2 c2 h2 hc2=>?_
 rw[hp];refine⟨hd.1,hd.2,?_⟩;rw[h2.mem];exact h st2 (c2+1) h2 (by omega)
theorem Zh:S.Yls I dep lk env st [] [] 0:=λ at_ st1 c Q H _ hs h=>by
 rw[S.wpEs];exact h _ _ hs (Yb _)
theorem Za {e:S.BE}{r:List S.BE}{x:Int}{xs:List Int}{K L:Nat}(he:S.Yl I dep lk env st e x K)(hr:S.Yls I dep lk env st r xs L):S.Yls I dep lk env st (e::r) (x::xs) (K+L):=λ at_ st1 c Q H hat hs h=>by
 rw[S.dEs] at hat;rw[S.wpEs];exact he at_ st1 c _ _ (by omega) hs λ st2 c2 h2 hc2=>hr (at_+1) st2 c2 _ _ (by omega) h2 λ st3 c3 h3 hc3=>h st3 c3 h3 (by omega)
theorem Zd1 {name:ByteArray}{l:List S.BE}{xs:List Int}{K L:Nat}{d x:Int}(hl:S.Yls I dep lk env st l xs K)(hlen:xs.length<=4)(hr:S.Tells I name st xs d x L)(hd:d<=dep):S.Yl I dep lk env st (S.eF name l) x (K+L+48):=λ at_ st1 c Q H hat hs h=>by
 have hd2:S.dE (S.eF name l)=S.dEs l:=by rw[S.eF,S.dE]
 rw[hd2] at hat;rw[Zpk];refine hl at_ st1 c _ _ hat hs λ st2 c2 h2 hc2=>?_
 refine⟨d,_,hr st2 h2,hd,λ ret o k ho=>?_⟩;obtain⟨st',rfl,h4,hs',hk⟩:=ho
 show Q (st'.reg 4) st' (c2+2*at_+xs.length+4+k)
 rw[h4];exact h st' _ hs' (by omega)
end
section
variable {I:S.Img}{dep lk:Int}{behind:Bool}{env:List Int}{st:S.Vw}{C:Nat}{Q:List Int->S.Vw->Nat->Prop}{R:S.BO->Nat->Prop}
theorem Zup (h:∀st1 c,S.Sim st st1->c<=C->Q env st1 c):S.WS I dep lk behind [] env st C Q R:=λ st1 c hs hc=>by
 rw[Zug];exact h st1 c hs hc
theorem Zbj {r:List S.BS}(n:Nat)(h:S.WS I dep lk behind r env st (C+n) Q R):S.WS I dep lk behind [] env st C (λ env st c=>S.wpSs I dep lk behind r env st (c+n) Q R) R:=Zup λ st1 c hs hc=>h st1 (c+n) hs (by omega)
theorem Zq2 {r:List S.BS}(h:S.WS I dep lk behind r env st C Q R):S.WS I dep lk behind [] env st C (λ env st c=>S.wpSs I dep lk behind r env st c Q R) R:=Zup λ st1 c hs hc=>h st1 c hs hc
theorem S.WS.more {l:List S.BS}{C':Nat}(h:S.WS I dep lk behind l env st C' Q R)(hc:C<=C'):S.WS I dep lk behind l env st C Q R:=λ st1 c hs h2=>h st1 c hs (by omega)
theorem Zo {n:Int}{e:S.BE}{r:List S.BS}{x:Int}{K:Nat}(he:S.Yl I dep lk env st e x K)(hd:S.dE e<=20)(h:S.WS I dep lk behind r (env.set n.toNat x) st (C+K+1) Q R):S.WS I dep lk behind (S.sAs n e::r) env st C Q R:=λ st1 c hs hc=>by
 rw[Zbs,Zuh];exact he 0 st1 c _ _ (by omega) hs λ st2 c2 h2 hc2=>h st2 (c2+1) h2 (by omega)
theorem Z39 {n:Int}{e:S.BE}{r:List S.BS}{x:Int}{K:Nat}(he:S.Yl I dep lk env st e x K)(hd:S.dE e<=20)(h:S.WS I dep lk behind r env (st.set n x) (C+K+1) Q R):S.WS I dep lk behind (S.sSet n e::r) env st C Q R:=λ st1 c hs hc=>by
 rw[Zbs,Zuk];exact he 0 st1 c _ _ (by omega) hs λ st2 c2 h2 hc2=>h (st2.set n x) (c2+1) (h2.set n x) (by omega)
theorem Zb3 {a e:S.BE}{n:Int}{r:List S.BS}{y x p:Int}{Ka Ke:Nat}(ha:S.Yl I dep lk env st a y Ka)(he:S.Yl I dep lk env st e x Ke)(hda:S.dE a<=20)(hd:S.dE e<=19)(hp:S.u32m (y+n)=p)(h1:p<I.size/\¬I.stk p/\¬I.code p)(h:S.WS I dep lk behind r env (st.sto p x) (C+Ka+Ke+1) Q R):S.WS I dep lk behind (S.sPut a n e::r) env st C Q R:=λ st1 c hs hc=>by
 rw[Zbs,Zpl];refine ha 0 st1 c _ _ (by omega) hs λ st2 c2 h2 hc2=>he 1 st2 c2 _ _ (by omega) h2 λ st3 c3 h3 hc3=>?_
 rw[hp];exact⟨h1.1,h1.2.1,h1.2.2,h (st3.sto p x) (c3+1) (h3.sto p x) (by omega)⟩
theorem Z1o {e:S.BE}{b l r:List S.BS}{x:Int}{K:Nat}(he:S.Yl I dep lk env st e x K)(hd:S.dE e<=20)(h0:x=0->S.WS I dep lk behind l env st (C+K+4) (λ env st c=>S.wpSs I dep lk behind r env st c Q R) R)
 (h1:x≠0->S.WS I dep lk behind b env st (C+K+4) (λ env st c=>S.wpSs I dep lk behind r env st (c+3) Q R) R):S.WS I dep lk behind (S.sIf e b l::r) env st C Q R:=λ st1 c hs hc=>by
 rw[Zbs,Zui];refine he 0 st1 c _ _ (by omega) hs λ st2 c2 h2 hc2=>?_
 split
 .rename_i h;exact h0 h st2 _ h2 (by omega)
 .rename_i h;exact h1 h st2 _ h2 (by omega)
theorem Zv {e:S.BE}{b r:List S.BS}{x:Int}{K:Nat}(he:S.Yl I dep lk env st e x K)(hd:S.dE e<=20)(h0:x=0->S.WS I dep lk behind r env st (C+K+4) Q R)
 (h1:x≠0->S.WS I dep lk behind b env st (C+K+4) (λ env st c=>S.wpSs I dep lk behind r env st (c+3) Q R) R):S.WS I dep lk behind (S.sWhen e b::r) env st C Q R:=Z1o he hd (λ h=>Zq2 (h0 h)) h1
theorem Zfe {e:S.BE}{b r:List S.BS}(hd:S.dE e<=20)(J:List Int->S.Vw->Nat->Nat->Prop){k0:Nat}(h0:J env st C k0)
 (hJ:∀env st C k,J env st C k->∃x K,S.Yl I dep lk env st e x K/\(x=0->S.WS I dep lk behind r env st (C+K+4) Q R) /\
  (x≠0->S.WS I dep lk behind b env st (C+K+4) (λ Zjx st2 c2=>∃k2,k2<k/\∃st3 C3,S.Sim st3 st2/\c2+3<=C3/\J Zjx st3 C3 k2) R)):S.WS I dep lk behind (S.sWh e b::r) env st C Q R:=λ st1 c hs hc=>by
 rw[Zbs,Zzt];refine⟨λ env st1 c k=>∃st C,S.Sim st st1/\c<=C/\J env st C k,⟨k0,st,C,hs,hc,h0⟩,λ env st1 c k h=>?_⟩;obtain⟨st,C,hs,hc,hj⟩:=h;obtain⟨x,K,he,h1,h2⟩:=hJ env st C k hj;refine he 0 st1 c _ _ (by omega) hs λ st2 c2 hs2 hc2=>?_
 split
 .rename_i h;exact h1 h st2 _ hs2 (by omega)
 .rename_i h;exact h2 h st2 _ hs2 (by omega)
theorem Z3 {J:List Int->S.Vw->Nat->Nat->Prop}{k k2:Nat}(hk:k2<k)(h:J env st (C+3) k2):S.WS I dep lk behind [] env st C (λ Zjx st2 c2=>∃k2,k2<k/\∃st3 C3,S.Sim st3 st2/\c2+3<=C3/\J Zjx st3 C3 k2) R:=Zup λ st1 c hs hc=>⟨k2,hk,st,C+3,hs,by omega,h⟩
theorem Zha {e:S.BE}{r:List S.BS}{x:Int}{K:Nat}(he:S.Yl I dep lk env st e x K)(hd:S.dE e<=20)(h:∀st2 c2,S.Sim st st2->c2<=C+K+6->R (.ret (st2.set 4 x)) c2):S.WS I dep lk behind (S.sVal e::r) env st C Q R:=λ st1 c hs hc=>by
 rw[Zbs,S.sVal,Zuj];exact he 0 st1 c _ _ (by omega) hs λ st2 c2 h2 hc2=>h st2 _ h2 (by split <;> omega)
theorem Zlj {name:ByteArray}{l:List S.BE}{r:List S.BS}{xs:List Int}{K:Nat}{d:Int}{T:S.BO->Nat->Prop}(hl:S.Yls I dep lk env st l xs K)(hdl:S.dEs l<=20)(hlen:xs.length<=4)(hr:∀st1,S.Sim st st1->S.Real I name false (st1.args xs) d (λ _ o k=>T o k))(hd:d<=dep)
 (h:∀o k,T o k->match o with
  | .ret st2=>∀c,c<=C+K+k+14->R (.ret (st2.set 4 (st2.reg 4))) c
  | .halt code st2=>∀c,c<=C+K+k+14->R (.halt code st2) c
  | .left _ _=>False):S.WS I dep lk behind (S.sVal (S.eF name l)::r) env st C Q R:=λ st1 c hs hc=>by
 rw[Zbs,S.sVal,Zuj,Zpk];refine hl 0 st1 c _ _ (by omega) hs λ st2 c2 h2 hc2=>⟨d,_,hr st2 h2,hd,λ ret o k ho=>?_⟩
 have hh:=h o k ho
 cases o with
 | ret st3=>exact hh _ (by split <;> omega)
 | halt code st3=>exact hh _ (by omega)
 | left a b=>exact hh
theorem Z1p {name:ByteArray}{l:List S.BE}{r:List S.BS}{xs:List Int}{K:Nat}{d:Int}{T:S.BO->Nat->Prop}(hl:S.Yls I dep lk env st l xs K)(hdl:S.dEs l<=20)(hlen:xs.length<=4)(hr:∀st1,S.Sim st st1->S.Real I name false (st1.args xs) d (λ _ o k=>T o k))(hd:d<=dep)
 (h:∀o k,T o k->match o with
  | .ret st2=>S.WS I dep lk behind r env st2 (C+K+k+8) Q R
  | .halt code st2=>∀c,c<=C+K+k+8->R (.halt code st2) c
  | .left _ _=>False):S.WS I dep lk behind (S.sDo (S.eF name l)::r) env st C Q R:=λ st1 c hs hc=>by
 rw[Zbs,Zzu,Zpk];refine hl 0 st1 c _ _ (by omega) hs λ st2 c2 h2 hc2=>⟨d,_,hr st2 h2,hd,λ ret o k ho=>?_⟩
 have hh:=h o k ho
 cases o with
 | ret st3=>exact hh st3 _ (.refl st3) (by omega)
 | halt code st3=>exact hh _ (by omega)
 | left a b=>exact hh
theorem Zcw (hI:I.Ok)(r:S.BR)(hc:S.chkB r=0){i:Nat}(hs:S.Seg I r.name i (S.bItems r)){dep:Int}(hdep:0<=dep)(st:S.Vw)(R:S.BO->Nat->Prop)
 (hw:∀(lk:Int)(env:List Int),(env.length:Int)=r.locals->(∀k:Nat,(k:Int)<r.params->env.getD k 0=st.reg (4+k))->S.WS I dep lk r.behind r.body env st 8 (λ _ st' c'=>R (.ret st') (c'+(if r.behind=true then 5 else 3))) R) :
 S.Real I r.name r.behind st (r.locals+15+dep) (λ _ o k=>R o k):=by
 have p4:=(Zc5 hc).2.2.1;exact Zgu hI r hc hs hdep st _ λ lk env _ _ hl hp=>hw lk env hl hp st _ (.refl st) (by omega)
theorem Zes (hI:I.Ok)(r:S.BR)(hc:S.chkB r=0){i:Nat}(hs:S.Seg I r.name i (S.bItems r)){dep:Int}(hdep:0<=dep)(hb:r.behind=false){st:S.Vw}{xs:List Int}(hp:r.params=xs.length){x:Int}{K:Nat}
 (hw:∀(lk:Int)(env:List Int)(s1:S.Vw),(env.length:Int)=r.locals->(∀k:Nat,k<xs.length->env.getD k 0=xs.getD k 0)->S.Sim st s1->∀Q,S.WS I dep lk false r.body env s1 8 Q (S.RetN st x K)) :
 S.Tells I r.name st xs (r.locals+15+dep) x K:=λ st1 hs1=>by
 have p4:=(Zc5 hc).2.2.1;have h:=Zcw hI r hc hs hdep (st1.args xs) (S.RetN st x K) λ lk env hl hpr=>by
  rw[hb];exact hw lk env (st1.args xs) hl (λ k hk=>by
   rw[hpr k (by omega)]
   show(if (4:Int)<=4+(k:Int)/\4+(k:Int)<4+(xs.length:Int) then xs.getD (4+(k:Int)-4).toNat 0 else _)=_
   rw[if_pos (by omega),show(4+(k:Int)-4).toNat=k by omega]) (hs1.args (by omega)) _
 rw[hb] at h;exact h
theorem Zch {s0:S.Vw}{e:S.BE}{r:List S.BS}{x:Int}{K N:Nat}(he:S.Yl I dep lk env st e x K)(hd:S.dE e<=20)(hs:S.Sim s0 st)(hN:C+K+6<=N):S.WS I dep lk behind (S.sVal e::r) env st C Q (S.RetN s0 x N):=Zha he hd λ st2 c2 h2 hc2=>⟨_,rfl,rfl,(hs.trans h2).set4 _,by omega⟩
end
end
section
namespace S
structure Ob where
 at_:Int
 ws:List Int
def tot:List Ob->Int
 | []=>0
 | o::r=>o.ws.length+tot r
def nw (t:Int):List Ob->Int->Option Int
 | [],_=>none
 | o::r,a=>if o.at_=a then some t else nw (t+o.ws.length) r a
def mv (t:Int)(ρ:List Ob)(w:Int):Int:=if w%4=1 then(match nw t ρ (w/4) with|some ν=>4*ν+1|none=>w) else w
def Dat (I:Img)(a:Int):Prop:=0<=a/\a<I.size/\¬I.stk a/\¬I.code a
structure Cf where
 O:List Ob
 fr:Int
 to_:Int
 hf:Int
structure ObOk (o:Ob):Prop where
 word:∀w∈o.ws,0<=w/\w<4294967296
 head:∃h r,o.ws=h::r/\h%4=3/\h/32=r.length
structure Cf.Ok (I:Img)(cf:Cf):Prop where
 frd:∀a,cf.fr<=a->a<cf.fr+cf.hf->Dat I a
 tod:∀a,cf.to_<=a->a<cf.to_+cf.hf->Dat I a
 apart:cf.fr+cf.hf<=cf.to_\/cf.to_+cf.hf<=cf.fr
 fr0:1312<=cf.fr
 to0:1312<=cf.to_
 hf0:0<=cf.hf
 frz:cf.fr+cf.hf<=335544320
 toz:cf.to_+cf.hf<=335544320
 low:∀a,0<=a->a<1056->Dat I a
 obs:∀o∈cf.O,ObOk o/\cf.fr<=o.at_/\o.at_+o.ws.length<=cf.fr+cf.hf
 dis:∀o∈cf.O,∀o'∈cf.O,o≠o'->o.at_+o.ws.length<=o'.at_\/o'.at_+o'.ws.length<=o.at_
 nd:cf.O.Nodup
 sum:tot cf.O<=cf.hf
structure Ch (cf:Cf)(ρ:List Ob)(st:Vw):Prop where
 sub:∀o∈ρ,o∈cf.O
 nd:ρ.Nodup
 r29:st.reg 29=cf.to_+tot ρ
 m2:st.mem 2=cf.fr
 m4:st.mem 4=cf.hf
 unc:∀o∈cf.O,o ∉ ρ->∀(k:Nat)(w:Int),o.ws[k]?=some w->st.mem (o.at_+(k:Int))=w
 cop:∀o∈ρ,∀ν,nw cf.to_ ρ o.at_=some ν->st.mem o.at_=4*ν+1
def WOk (cf:Cf)(T:Ob->Prop)(w:Int):Prop:=0<=w/\w<4294967296/\(w%4=1->(∃o∈cf.O,T o/\w=4*o.at_+1)\/w/4<cf.fr\/cf.fr+cf.hf<=w/4)
def Cl (cf:Cf)(ρ:List Ob)(w:Int):Prop:=∀o∈cf.O,w=4*o.at_+1->o∈ρ
structure Tr (cf:Cf)(T:Ob->Prop)(ρ:List Ob)(st:Vw)(ρ':List Ob)(st':Vw):Prop where
 ext:∃δ,ρ'=ρ++δ/\∀o∈δ,T o
 ch:Ch cf ρ' st'
 reg:∀j,j≠4->j≠5->j≠29->st'.reg j=st.reg j
 mem:∀a,¬(cf.fr<=a/\a<cf.fr+cf.hf)->¬(cf.to_+tot ρ<=a/\a<cf.to_+tot ρ')->st'.mem a=st.mem a
 new:∀o∈ρ',o ∉ ρ->∀ν,nw cf.to_ ρ' o.at_=some ν->∀(k:Nat)(w:Int),o.ws[k]?=some w->st'.mem (ν+(k:Int))=w
 inp:st'.inp=st.inp
 out:st'.out=st.out
end S
theorem Zbn (a b:List S.Ob):S.tot (a++b)=S.tot a+S.tot b:=by
 induction a with
 | nil=>simp[S.tot]
 | cons o r ih=>rw[Yaa,S.tot,S.tot,ih];omega
theorem Zy:∀l:List S.Ob,0<=S.tot l
 | []=>by simp[S.tot]
 | o::r=>by have:=Zy r;rw[S.tot];omega
theorem Zci:∀(ρ O:List S.Ob),ρ.Nodup->(∀o∈ρ,o∈O)->S.tot ρ<=S.tot O
 | [],O,_,_=>by rw[S.tot];exact Zy O
 | o::r,O,hn,hs=>by
  obtain⟨A,B,rfl⟩:=List.append_of_mem (hs o Yu);obtain⟨h1,h2⟩:=Yb7.1 hn;have:=Zci r (A++B) h2 λ x hx=>by
   have hm:=hs x (Yw _ hx);rw[List.mem_append,Yz] at hm;rcases hm with hm|rfl|hm
   .exact Ya5 _ hm
   .exact absurd hx h1
   .exact List.mem_append_right _ hm
  rw[S.tot,Zbn,S.tot];rw[Zbn] at this;omega
theorem Zyh {ρ O:List S.Ob}{o:S.Ob}(hn:ρ.Nodup)(hs:∀o∈ρ,o∈O)(ho:o∈O)(hno:o ∉ ρ):S.tot ρ+o.ws.length<=S.tot O:=by
 have:=Zci (o::ρ) O (Yb7.2 ⟨hno,hn⟩) λ x hx=>by
  rcases Yz.1 hx with rfl|hx
  .exact ho
  .exact hs x hx
 rw[S.tot] at this;omega
theorem Zed {t:Int}{a:Int}:∀{ρ:List S.Ob} {ν:Int} (δ:List S.Ob),S.nw t ρ a=some ν->S.nw t (ρ++δ) a=some ν
 | [],ν,δ,h=>by simp[S.nw] at h
 | o::r,ν,δ,h=>by
  rw[Yaa,S.nw];rw[S.nw] at h
  split
  .rename_i c;rw[if_pos c] at h;exact h
  .rename_i c;rw[if_neg c] at h;exact Zed δ h
theorem Zuq {t a:Int}:∀{ρ:List S.Ob},S.nw t ρ a=none->∀o∈ρ,o.at_≠a
 | [],_,o,ho=>by cases ho
 | x::r,h,o,ho=>by
  rw[S.nw] at h
  split at h
  .cases h
  .rename_i c
   rcases Yz.1 ho with rfl|ho
   .exact c
   .exact Zuq h o ho
theorem Zur {t a:Int}:∀{ρ:List S.Ob} {o:S.Ob},(∀x∈ρ,x.at_≠a)->o.at_=a->S.nw t (ρ++[o]) a=some (t+S.tot ρ)
 | [],o,_,ho=>by rw[List.nil_append,S.nw,if_pos ho,S.tot,Int.add_zero]
 | x::r,o,h,ho=>by
  rw[Yaa,S.nw,if_neg (h x Yu),Zur (λ y hy=>h y (Yw _ hy)) ho,S.tot]
  congr 1
  omega
theorem Zf0 {a:Int}:∀{ρ:List S.Ob} {t ν:Int},S.nw t ρ a=some ν->∃o∈ρ,o.at_=a/\t<=ν/\ν+o.ws.length<=t+S.tot ρ
 | [],t,ν,h=>by simp[S.nw] at h
 | x::r,t,ν,h=>by
  rw[S.nw] at h;have hr:=Zy r
  split at h
  .rename_i c
   cases h
   exact⟨x,Yu,c,Int.le_refl _,by rw[S.tot];omega⟩
  .obtain⟨o,ho,h1,h2,h3⟩:=Zf0 h
   exact⟨o,Yw _ ho,h1,by omega,by rw[S.tot];omega⟩
theorem Zff {t:Int}{ρ:List S.Ob}{o:S.Ob}(h:o∈ρ):∃ν,S.nw t ρ o.at_=some ν:=by
 cases hq:S.nw t ρ o.at_ with
 | some ν=>exact⟨ν,rfl⟩
 | none=>exact absurd rfl (Zuq hq o h)
section
variable {I:S.Img}{cf:S.Cf}(hc:S.Cf.Ok I cf)
include hc
theorem Zhb {o:S.Ob}(ho:o∈cf.O):1<=o.ws.length:=by
 obtain⟨h,r,e,_⟩:=(hc.obs o ho).1.head;rw[e];simp
theorem Zus {o o':S.Ob}(ho:o∈cf.O)(ho':o'∈cf.O)(h:o.at_=o'.at_):o=o':=by
 refine Y_c λ hne=>?_
 have h1:=Zhb hc ho;have h2:=Zhb hc ho';rcases hc.dis o ho o' ho' hne with h3|h3 <;> omega
theorem Zlk {t:Int}{ρ:List S.Ob}(hs:∀o∈ρ,o∈cf.O){o:S.Ob}(ho:o∈cf.O){ν:Int}(h:S.nw t ρ o.at_=some ν):o∈ρ/\t<=ν/\ν+o.ws.length<=t+S.tot ρ:=by
 obtain⟨x,hx,e,h1,h2⟩:=Zf0 h;have:=Zus hc (hs x hx) ho e;subst this;exact⟨hx,h1,h2⟩
theorem S.Tr.sub {T:S.Ob->Prop}{ρ ρ':List S.Ob}{st st':S.Vw}(h:S.Tr cf T ρ st ρ' st'){o:S.Ob}(ho:o∈ρ):o∈ρ':=by
 obtain⟨δ,e,_⟩:=h.ext;rw[e];exact Ya5 _ ho
end
end
