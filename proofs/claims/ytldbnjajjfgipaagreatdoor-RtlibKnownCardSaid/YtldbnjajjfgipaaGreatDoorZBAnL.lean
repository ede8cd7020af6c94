/- Parts. -/
import Derived.Test.YtldbnjajjfgipaaGreatDoorZQf
import Derived.KernelRfl
set_option linter.all false
open List renaming mem_cons->Yu,not_mem_nil->Yy,mem_singleton->Yaf
namespace Go.Proofs.YtldbnjajjfgipaaGreatDoor
open S Go.RowKit
namespace S
def eAdd (a b:BE):BE:=eB 1 a b
def eSub (a b:BE):BE:=eB 2 a b
def eAnd (a b:BE):BE:=eB 7 a b
def eLt (a b:BE):BE:=eB 14 a b
def eShr (a:BE)(n:Int):BE:=eB 11 a (eC n)
def eShl (a:BE)(n:Int):BE:=eB 10 a (eC n)
def eNot (a:BE):BE:=eQ a (eC 0)
def eW (n:Int):BE:=eM (eC n) 0
def eRef (a:BE):BE:=eB 8 (eShl a 2) (eC 1)
def eAdr (a:BE):BE:=eShr a 2
def sKeep (n:Int)(e:BE):BS:=sPut (eC n) 0 e
def sWhen (e:BE)(b:List BS):BS:=sIf e b []
def sVal (e:BE):BS:=sBk e
def Zuu (a:BE):BE:=eQ (eAnd a (eC 3)) (eC 1)
def Zz0:ByteArray:=⟨#[109,111,118,101]⟩
def Zqz:ByteArray:=⟨#[115,99,97,110]⟩
def Zw5:ByteArray:=⟨#[102,114,97,109,101]⟩
def kCollect:ByteArray:=⟨#[99,111,108,108,101,99,116]⟩
def kReserve:ByteArray:=⟨#[114,101,115,101,114,118,101]⟩
def kCons:ByteArray:=⟨#[99,111,110,115]⟩
def Zw6:ByteArray:=⟨#[98,101,103,105,110]⟩
def kStatic:ByteArray:=⟨#[115,116,97,116,105,99]⟩
def kCode:ByteArray:=⟨#[99,111,100,101]⟩
def kStub:ByteArray:=⟨#[115,116,117,98]⟩
def kMapped:ByteArray:=⟨#[109,97,112,112,101,100]⟩
def kMore:ByteArray:=⟨#[109,111,114,101]⟩
def kEnd:ByteArray:=⟨#[101,110,100]⟩
def kHead:ByteArray:=⟨#[104,101,97,100]⟩
def kTail:ByteArray:=⟨#[116,97,105,108]⟩
def kMain:ByteArray:=⟨#[109,97,105,110]⟩
def kF0:ByteArray:=⟨#[102,48]⟩
def kRt (n:Int):ByteArray:=⟨([114,116]++itoa n).toArray⟩
def Z2r:BR:=⟨Zz0,1,4,false,
 [sWhen (eNot (Zuu (eL 0))) [sVal (eL 0)],
  sAs 1 (eAdr (eL 0)),
  sWhen (eNot (eLt (eSub (eL 1) (eW 2)) (eW 4))) [sVal (eL 0)],
  sAs 2 (eM (eL 1) 0),
  sWhen (Zuu (eL 2)) [sVal (eL 2)],
  sAs 2 (eShr (eL 2) 5),
  sAs 3 (eC 0),
  sWh (eNot (eLt (eL 2) (eL 3))) [sPut (eAdd (eR 29) (eL 3)) 0 (eM (eAdd (eL 1) (eL 3)) 0),sAs 3 (eAdd (eL 3) (eC 1))],
  sPut (eL 1) 0 (eRef (eR 29)),
  sSet 29 (eAdd (eR 29) (eL 3)),
  sVal (eM (eL 1) 0)]⟩
def Zz1:List BS:=[sPut (eL 0) 0 (eF Zz0 [eM (eL 0) 0]),sAs 0 (eAdd (eL 0) (eC 1))]
def Z2s:BR:=⟨Zqz,2,2,false,[sWh (eLt (eL 0) (eL 1)) Zz1]⟩
def Zz2:BR:=⟨Zw5,1,5,false,
 [sAs 1 (eAdd (eL 0) (eM (eL 0) 0)),
  sAs 2 (eC 32),
  sWh (eLt (eL 0) (eL 1))
   [sAs 0 (eAdd (eL 0) (eC 1)),
    sAs 3 (eM (eL 0) 0),
    sWhen (eQ (eL 2) (eC 1056)) [sAs 2 (eA kMore)],
    sAs 4 (eAdd (eL 2) (eC 32)),
    sWh (eLt (eL 2) (eL 4))
     [sWhen (eAnd (eL 3) (eC 1)) [sDo (eF Zqz [eL 2,eAdd (eL 2) (eC 1)])],
      sAs 3 (eShr (eL 3) 1),
      sAs 2 (eAdd (eL 2) (eC 1))]]]⟩
def Zuv:BR:=⟨kCollect,0,1,false,
 [sSet 29 (eW 3),
  sDo (eF Zqz [eC 5,eC 6]),
  sDo (eF Zqz [eC 16,eAdd (eC 16) (eW 8)]),
  sWhen (eW 6) [sDo (eF Zw5 [eW 6])],
  sDo (eF Zqz [eC 1312,eA kCode]),
  sAs 0 (eW 3),
  sWh (eLt (eL 0) (eR 29)) Zz1,
  sAs 0 (eW 2),
  sKeep 2 (eW 3),
  sKeep 3 (eL 0),
  sSet 26 (eR 29),
  sSet 27 (eAdd (eW 2) (eW 4))]⟩
def eShort:BE:=eLt (eSub (eR 27) (eR 26)) (eL 0)
def rReserve:BR:=⟨kReserve,1,1,false,[sAs 0 (eAdd (eL 0) (eW 7)),sWhen eShort [sDo (eF kCollect []),sWhen eShort [sHlt (eC 255)]]]⟩
def rCons:BR:=⟨kCons,2,2,false,
 [sPut (eR 26) 0 (eC 67),sPut (eR 26) 1 (eL 0),sPut (eR 26) 2 (eL 1),sSet 26 (eAdd (eR 26) (eC 3)),sVal (eRef (eSub (eR 26) (eC 3)))]⟩
def Zz3 (n:BE):List BS:=[sKeep 16 (eR 1),sKeep 23 (eR 10),sKeep 17 (eR 4),sKeep 18 (eR 5),sKeep 19 (eR 6),sKeep 20 (eR 7),sKeep 21 (eR 8),sKeep 22 (eR 9),sKeep 6 (eC 0),
 sIf (eLt (eC 6) n) [sKeep 8 (eC 8)] [sKeep 8 (eAdd n (eC 1))]]
def Zn0:List BS:=[sKeep 8 (eC 0),sRet [1,4,5,6,7,8,9,10] [eW 16,eW 17,eW 18,eW 19,eW 20,eW 21,eW 22,eW 23]]
def Zz4:BR:=⟨kRt 100,0,2,false,[sAs 0 (eR 2),sAs 1 (eR 3)]++Zz3 (eL 0)++[sDo (eF kReserve [eL 1])]++Zn0⟩
def Zxx (n from_ at_:BE)(atN locl:Int):List BS :=
 [sAs locl (eW 23),sKeep 23 (eRef (eR 26)),
  sWh n [sPut (eR 26) 0 (eC 67),sPut (eR 26) 1 (eM (eAdr from_) 1),sAs locl (eM (eAdr from_) 2),sSet 26 (eAdd (eR 26) (eC 3)),sPut (eSub (eR 26) (eC 3)) 2 (eRef (eR 26)),sAs atN (eSub at_ (eC 1))],
  sPut (eSub (eR 26) (eC 3)) 2 (eC 38)]
def Z2t:BR:=⟨kRt 101,0,5,false,
 [sAs 0 (eR 2),sAs 1 (eR 3),sAs 2 (eL 1)]++Zz3 (eL 0) ++
 [sWhen (eLt (eC 6) (eL 2)) [sAs 2 (eC 6)],
  sAs 2 (eSub (eL 0) (eL 2)),
  sDo (eF kReserve [eAdd (eL 2) (eShl (eL 2) 1)]),
  sAs 2 (eC 0),
  sIf (eLt (eC 6) (eL 0)) (sAs 2 (eSub (eL 0) (eC 6))::Zxx (eL 2) (eL 3) (eL 2) 2 3) [sKeep 23 (eC 38)],
  sWhen (eLt (eL 1) (eC 6))
   [sAs 3 (eW 23),sAs 4 (eL 0),sWhen (eLt (eC 6) (eL 4)) [sAs 4 (eC 6)],
    sWh (eLt (eL 1) (eL 4)) [sAs 4 (eSub (eL 4) (eC 1)),sAs 3 (eF kCons [eM (eAdd (eL 4) (eC 17)) 0,eL 3])],
    sPut (eAdd (eL 1) (eC 17)) 0 (eL 3)]]++Zn0⟩
def Zw7 (v:BE):BE:=eAnd (eM (eAdr v) 0) (eC 31)
def Zz5 (v:BE)(yes no:List BS):BS:=sIf (Zuu v) [sIf (eQ (Zw7 v) (eC 3)) yes no] no
def Zz6:BR:=⟨kRt 102,0,6,false,
 [sAs 0 (eR 4),sAs 1 (eR 2),sAs 2 (eR 10),sAs 3 (eC 0),sAs 4 (eL 2),
  sWhen (eNot (Zuu (eL 0))) [sHlt (eC 6)],
  sWhen (eNot (eQ (Zw7 (eL 0)) (eC 11))) [sHlt (eC 6)],
  sAs 5 (eC 1),
  sWh (eL 5) [Zz5 (eL 4) [sAs 3 (eAdd (eL 3) (eC 1)),sWhen (eLt (eC 1048576) (eL 3)) [sHlt (eC 3)],sAs 4 (eM (eAdr (eL 4)) 2)] [sAs 5 (eC 0)]],
  sWhen (eNot (eQ (eL 4) (eC 38))) [sHlt (eC 2)],
  sKeep 17 (eR 5),sKeep 18 (eR 6),sKeep 19 (eR 7),sKeep 20 (eR 8),sKeep 21 (eR 9),
  sAs 4 (eL 2),sAs 5 (eL 1),
  sWh (eLt (eL 5) (eC 6)) [Zz5 (eL 4) [sPut (eAdd (eL 5) (eC 17)) 0 (eM (eAdr (eL 4)) 1),sAs 4 (eM (eAdr (eL 4)) 2)] [],sAs 5 (eAdd (eL 5) (eC 1))],
  sSet 1 (eL 0),sSet 2 (eAdd (eL 1) (eL 3)),sSet 10 (eL 4),
  sSet 4 (eW 17),sSet 5 (eW 18),sSet 6 (eW 19),sSet 7 (eW 20),sSet 8 (eW 21),sSet 9 (eW 22),
  sGo (eShr (eM (eAdr (eR 1)) 1) 2)]⟩
def Zz7:BR:=⟨Zw6,0,1,false,
 [sKeep 4 (eShr (eW 1) 1),sKeep 2 (eA kEnd),sKeep 3 (eAdd (eW 2) (eW 4)),sKeep 6 (eC 0),sKeep 8 (eC 0),sAs 0 (eC 1312),
  sWh (eLt (eL 0) (eA kStatic)) [sPut (eL 0) 0 (eC 70),sAs 0 (eAdd (eL 0) (eC 1))],
  sSet 26 (eW 2),sSet 27 (eW 3),sSet 1 (eC 0),sSet 2 (eC 0),Z4j kF0]⟩
def Zuw (n code:Int):BR:=⟨kRt n,0,0,false,[sHlt (eC code)]⟩
def Zz8:Obj:=⟨Zxl,[bL Zxl,bI 15 28 0 0 1056,bA 25 Zw6,bI 33 0 25 0 0]⟩
def oMain:Obj:=⟨kMain,[bL kF0,bI 15 4 0 0 9,bI 36 0 4 0 0]⟩
def ofR (r:BR):Obj:=⟨r.name,bItems r⟩
def rs26:List BR:=[Zz7,Z2r,Z2s,Zz2,Zuv,rReserve,rCons,Zz4,Z2t,Zz6,Zuw 103 5,Zuw 104 2,Zuw 105 6,Zuw 106 0]
def objs26:List Obj:=Zz8::rs26.map ofR
end S
section
namespace S
end S
section
variable {I:S.Img}{dep lk:Int}
section
variable {env:List Int}{st:Vw}
end
section
variable {behind:Bool}{env:List Int}{st:Vw}{c:Nat}{Q:List Int->Vw->Nat->Prop}{R:BO->Nat->Prop}
end
end
theorem Zn1 {x:Int}(i:Nat)(m:Int)(hm:m=2^i-1)(hi:i<=32)(h0:0<=x)(a:x<4294967296):alu 7 x m=x%(m+1):=by
 show bits .and .u32 x m=_
 exact Zad i x (m+1) m (by omega) (by omega) hi h0 a
theorem Z2u {x:Int}(h0:0<=x)(a:x<4294967296):alu 7 x (3%4294967296)=x%4:=Zn1 2 3 (by decide) (by decide) h0 a
theorem Z2v {x:Int}(h0:0<=x)(a:x<4294967296):alu 7 x (31%4294967296)=x%32:=Zn1 5 31 (by decide) (by decide) h0 a
theorem Z2d (x:Int):alu 11 x (2%4294967296)=x/4:=rfl
theorem Z39 (x:Int):alu 11 x (5%4294967296)=x/32:=rfl
theorem Z4a (x:Int):alu 10 x (2%4294967296)=u32m (x*4):=rfl
theorem Zxy (x y:Int):alu 1 x y=u32m (x+y):=rfl
theorem Z3z (x y:Int):alu 2 x y=u32m (x-y):=rfl
theorem Zxz (x y:Int):alu 14 x y=if x<y then 1 else 0:=by
 show truth (x<y)=_
 unfold truth
 split <;> simp_all
theorem or1 {x:Int}(h0:0<=x)(a:x<4294967296)(h:x%4=0):alu 8 x (1%4294967296)=x+1:=by
 show bits .or .u32 x 1=_
 exact Zv 2 x 1 4 (by decide) h0 h a (by decide) (by decide) (by decide)
end
namespace S
structure Ob where
 at_:Int
 ws:List Int
def nw (t:Int):List Ob->Int->Option Int
 | [],_=>none
 | o::r,a=>if o.at_=a then some t else nw (t+o.ws.length) r a
def mv (t:Int)(ρ:List Ob)(w:Int):Int:=if w%4=1 then(match nw t ρ (w/4) with|some ν=>4*ν+1|none=>w) else w
def Dat (I:Img)(a:Int):Prop:=0<=a/\a<I.size/\¬I.stk a/\¬I.code a
structure Cf where
 O:List Ob
 fr:Int
 to_:Int
 hf:Int
end S
theorem Zky {I:S.Img}{a:Int}(h:S.Dat I a):a<I.size/\¬I.stk a:=⟨h.2.1,h.2.2.1⟩
def S.Out (cf:S.Cf)(a:Int):Prop:=¬(cf.fr<=a/\a<cf.fr+cf.hf)/\¬(cf.to_<=a/\a<cf.to_+cf.hf)/\a≠2/\a≠4
theorem Zkn {env:List Int}(h:(env.length:Int)=2):∃a b,env=[a,b]:=by
 match env,h with
 | [a,b],_=>exact⟨a,b,rfl⟩
 | [],h=>simp at h
 | [_],h=>simp at h
 | _::_::_::_,h=>simp only[List.length_cons] at h;omega
theorem Zbg (y:Inst):0<=wordOf y/\wordOf y<=4294967295:=by
 unfold wordOf
 split
 .rename_i h;exact Zzy h
 .omega
theorem Zux {x:S.Item}(b:0<=x.word/\x.word<=4294967295)(form at_ d:Int):∀v∈wordsOf x form at_ d,0<=v/\v<=4294967295:=by
 unfold wordsOf lui ori;intro v a
 split at a
 .simp only[Yaf] at a;subst a;exact Zbg _
 split at a
 .simp only[Yaf] at a;subst a;exact Zbg _
 split at a
 .simp only[Yu,Yy,or_false] at a
  rcases a with rfl|rfl <;> exact Zbg _
 split at a
 .simp only[Yu,Yy,or_false] at a
  rcases a with rfl|rfl|rfl|rfl <;> exact Zbg _
 split at a
 .simp only[Yaf] at a;subst a;exact Zbg _
 split at a
 .simp only[Yu,Yy,or_false] at a
  rcases a with rfl|rfl|rfl <;> exact Zbg _
 split at a
 .simp only[Yu,Yy,or_false] at a
  rcases a with rfl|rfl <;> exact Zbg _
 split at a
 .simp only[Yaf] at a;subst a;exact b
 split at a
 .simp only[Yaf] at a;subst a;omega
 split at a
 .have:=List.eq_of_mem_replicate a;subst this;omega
 .cases a
theorem Zgm {xs:List S.Item}{F:List Int}{base:Int}(b:∀x∈xs,0<=x.word/\x.word<=4294967295):∀i:Nat,∀v∈outTo xs F base i,0<=v/\v<=4294967295
 | 0=>λ v a=>by cases a
 | i+1=>λ v a=>by
  rw[outTo] at a;rcases List.mem_append.1 a with a|a
  .exact Zgm b i v a
  .unfold wordsAt at a
   split at a
   .cases a
   .rename_i x hx
    exact Zux (b x (List.mem_of_getElem? hx)) _ _ _ v a
