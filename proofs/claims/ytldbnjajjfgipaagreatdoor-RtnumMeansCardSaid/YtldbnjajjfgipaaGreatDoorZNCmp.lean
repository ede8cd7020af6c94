/- Parts. -/
import Derived.Test.YtldbnjajjfgipaaGreatDoorZGWld
import Derived.BigQuiet
import Derived.KernelRfl
set_option linter.all false
open Nat renaming le_refl->Yb
open List renaming length_append->Yd,getD_eq_getElem?_getD->Ye,length_cons->Yj,getElem?_append_left->Yn,getElem?_append_right->Yo,mem_cons_self->Yv,mem_cons_of_mem->Yy
open Go.World renaming cell?_of_block->Yau
namespace Go.Proofs.YtldbnjajjfgipaaGreatDoor
open S Go.RowKit
section
theorem ReadsP.same {w w':World}{A:Option Addr}{L:List (ByteArray×Int)}(h:ReadsP w w.heap.size A L)(hz:w.heap.size<=w'.heap.size)(c:∀b o s,A=some ⟨b,o,s⟩->w'.heap[b]?=w.heap[b]?):ReadsP w' w'.heap.size A L:=λ hp=>by
 obtain⟨b,off,e,g,d⟩:=h hp;exact⟨b,off,e,by omega,λ i p f=>⟨(Yau (w:=w) (a:=⟨b,off+i*2,none⟩) (c b off none e)).trans (d i p f).1,(Yau (w:=w) (a:=⟨b,off+i*2+1,none⟩) (c b off none e)).trans (d i p f).2⟩⟩
section
variable {w w':World}{lo b p:Nat}{F:Nat->Prop}{H half:Int}{P:List (ByteArray×Int)}{m m':Mach}
end
end
structure OC (w:World)(B:Nat)(os:List S.Obj)(oc:List Value):Prop where
 len:oc.length=os.length*2
 one:∀u∈oc,u.oneCell'=true
 at_:∀(i:Nat)(x:S.Obj),os[i]?=some x->∃A c,oc[i*2]?=some (.string x.name)/\oc[i*2+1]?=some (.slice A x.items.length c)/\Items w B A x.items/\x.name.size<=maxLen/\∀y∈x.items,y.label.size<=maxLen
theorem Zz4 {w:World}{base:Nat}{e:TypeId}{A:Option Addr}{c:Nat}{os:List S.Obj}{oc:List Value}(j:w.ownsRow base e 2 (.slice A os.length c) os.length oc)(a:OC w w.heap.size os oc):Objs w w.heap.size A os:=λ hp=>by
 obtain⟨b,off,rfl,d,h⟩:=Za8 j (by rw[a.len];omega);refine⟨b,off,rfl,d,λ i x n=>?_⟩;obtain⟨l,g,h0,h1,h2,h3,f⟩:=a.at_ i x n;exact⟨h _ _ h0,⟨l,g,h _ _ h1,h2⟩,h3,f⟩
theorem OC.app {w:World}{B:Nat}{a b:List S.Obj}{j l:List Value}(h:OC w B a j)(k:OC w B b l):OC w B (a++b) (j++l):=by
 refine⟨by rw[Yd,Yd,h.len,k.len];omega,λ u n=>(List.mem_append.1 n).elim (h.one u) (k.one u),λ i x d=>?_⟩;by_cases c:i<a.length
 .rw[Yn c] at d
  obtain⟨g,e,h0,h1,h2⟩:=h.at_ i x d;have f:=h.len;exact⟨g,e,by rw[Yn (by omega)];exact h0,by rw[Yn (by omega)];exact h1,h2⟩
 .rw[Yo (by omega)] at d
  obtain⟨g,e,h0,h1,h2⟩:=k.at_ (i-a.length) x d;have f:=h.len;exact⟨g,e,by rw[Yo (by omega),f,show i*2-a.length*2=(i-a.length)*2 from by omega];exact h0,by rw[Yo (by omega),f,show i*2+1-a.length*2=(i-a.length)*2+1 from by omega];exact h1,h2⟩
theorem OC.one_ {w:World}{B:Nat}{x:S.Obj}{A:Option Addr}{c:Nat}(hi:Items w B A x.items)(e:x.name.size<=maxLen)(d:∀y∈x.items,y.label.size<=maxLen):OC w B [x] [.string x.name,.slice A x.items.length c] :=
 ⟨rfl,by simp[Value.oneCell'],λ i y a=>by
  cases i with
  | zero=>cases a;exact⟨A,c,rfl,rfl,hi,e,d⟩
  | succ i=>cases a⟩
theorem ReadsP.same' {w:World}{B B':Nat}{A:Option Addr}{L:List (ByteArray×Int)}(h:ReadsP w B A L)(hb:B<=B'):ReadsP w B' A L:=λ hp=>by
 obtain⟨b,off,e,c,a⟩:=h hp;exact⟨b,off,e,by omega,a⟩
theorem MAt.base {w:World}{B B' p:Nat}{d e:Value}{A:Option Addr}{c:Nat}{inp:List Int}{rd:Nat}{m:Mach}(h:MAt w B p d e A c inp rd m)(a:B'<=B):MAt w B' p d e A c inp rd m :=
 ⟨h.ok,Nat.le_trans a h.low,h.blk,Z3 h.mem a,Z3 h.out a,h.rin,h.left,h.rdle,h.inl,h.low0,h.la,h.d1,h.d2⟩
theorem Zem:(Tryz.prog.info? 105).map (λ i=>(i.zero,i.size,i.bytes))=some (some (.agg #[.string ByteArray.empty,.slice none 0 0]),2,40):=by kernel_rfl
section
section
variable {H:Zv}{w:World}(hH:∀b k,H b=some k->b<w.heap.size)
include hH
theorem Zoo:∀{os:List S.Obj} {xs:List Value},RepL H w (ag os) xs->(∀x∈os,(∀y∈x.items,0<=y.word/\y.word<=4294967295)/\x.name.size<=maxLen/\∀y∈x.items,y.label.size<=maxLen)->OC w w.heap.size os xs
 | [],xs,h,_=>by
  have a:RepL H w [] xs:=h;rw[RepL] at a;subst a;exact { len:=rfl,one:=λ u g=>(List.not_mem_nil g).elim,at_:=λ i x f=>by simp at f }
 | o::r,xs,h,hw=>by
  have a:RepL H w (.str o.name::.row o.items.length (encItems o.items)::ag r) xs:=h;rw[RepL] at a;obtain⟨v0,rs,rfl,_,d,a⟩:=a;rw[RepL] at a;obtain⟨v1,rs,rfl,_,e,a⟩:=a;rw[RepV] at d;subst d;obtain⟨j,l,n⟩:=hw o Yv;obtain⟨A,c,rfl,hi⟩:=Zsy hH e j;have ih:=Zoo a λ x f=>hw x (Yy _ f)
  exact(OC.one_ (x:=o) (c:=c) hi l n).app ih
end
theorem ItemAt.block {w w':World}{b o:Nat}{x:S.Item}(h:ItemAt w b o x)(c:w'.heap[b]?=w.heap[b]?):ItemAt w' b o x:=h.keep λ o=>Yau (a:=⟨b,o,none⟩) c
section
variable {gw sw:List Int}(hg:∀x∈gw,0<=x/\x<=4294967295)(hs:∀x∈sw,0<=x/\x<=4294967295)(hgl:gw.length<=100)(hsl:sw.length<=100)
include hg hs hgl hsl
end
end
namespace S
def kN (l:List UInt8):ByteArray:=⟨([110,117,109]++l).toArray⟩
def kNInt:ByteArray:=kN [105,110,116]
def kNLen:ByteArray:=kN [108,101,110]
def kNNeg:ByteArray:=kN [110,101,103]
def kNDig:ByteArray:=kN [100,105,103]
def kNCmp:ByteArray:=kN [99,109,112]
def kNFin:ByteArray:=kN [102,105,110]
def kNAdd:ByteArray:=kN [97,100,100]
def kNSub:ByteArray:=kN [115,117,98]
def kNSum:ByteArray:=kN [115,117,109]
def kNMul:ByteArray:=kN [109,117,108]
def kNTop:ByteArray:=kN [116,111,112]
def kNShl:ByteArray:=kN [115,104,108]
def kNTake:ByteArray:=kN [116,97,107,101]
def kNBack:ByteArray:=kN [98,97,99,107]
def kNDiv:ByteArray:=kN [100,105,118]
def eFix (v:BE):BE:=eNot (eAnd v (eC 3))
def sInc (n:Int):BS:=sAs n (eAdd (eL n) (eC 1))
def eDg (e:BE):BE:=eShl (eAnd e (eC 65535)) 2
def eH:BE:=eR 26
def rNInt:BR:=⟨kNInt,1,1,false,
 [sWhen (eFix (eL 0)) [sVal (eC 1)],
  sWhen (eNot (isRef (eL 0))) [sVal (eC 0)],
  sVal (eQ (eAnd (eM (eAdr (eL 0)) 0) (eC 31)) (eC 31))]⟩
def rNLen:BR:=⟨kNLen,1,1,false,
 [sWhen (eFix (eL 0)) [sVal (eC 2)],
  sVal (eSub (eShr (eM (eAdr (eL 0)) 0) 5) (eC 1))]⟩
def rNNeg:BR:=⟨kNNeg,1,1,false,
 [sWhen (eFix (eL 0)) [sVal (eShr (eL 0) 31)],
  sVal (eShr (eM (eAdr (eL 0)) 1) 2)]⟩
def rNDig:BR:=⟨kNDig,2,3,false,
 [sIf (eFix (eL 0))
  [sAs 2 (eB 12 (eL 0) (eC 2)),
   sWhen (eShr (eL 0) 31) [sAs 2 (eSub (eC 0) (eL 2))],
   sWhen (eNot (eL 1)) [sVal (eAnd (eL 2) (eC 65535))],
   sWhen (eQ (eL 1) (eC 1)) [sVal (eShr (eL 2) 16)]]
  [sWhen (eLt (eL 1) (eF kNLen [eL 0])) [sVal (eShr (eM (eAdd (eAdr (eL 0)) (eL 1)) 2) 2)]],
  sVal (eC 0)]⟩
def rNCmp:BR:=⟨kNCmp,2,5,false,
 [sAs 2 (eAdd (eF kNLen [eL 0]) (eF kNLen [eL 1])),
  sWh (eL 2)
   [sAs 2 (eSub (eL 2) (eC 1)),
    sAs 3 (eF kNDig [eL 0,eL 2]),
    sAs 4 (eF kNDig [eL 1,eL 2]),
    sWhen (eLt (eL 3) (eL 4)) [sVal (eC 0)],
    sWhen (eLt (eL 4) (eL 3)) [sVal (eC 2)]],
  sVal (eC 1)]⟩
def rNFin:BR:=⟨kNFin,2,4,false,
 [sAs 3 (eC 1),
  sWh (eL 3)
   [sAs 3 (eC 0),
    sWhen (eL 1) [sWhen (eNot (eM (eAdd eH (eL 1)) 1)) [sAs 1 (eSub (eL 1) (eC 1)),sAs 3 (eC 1)]]],
  sAs 2 (eC 0),
  sWhen (eL 1) [sAs 2 (eShr (eM eH 2) 2)],
  sWhen (eQ (eL 1) (eC 2)) [sAs 2 (eB 8 (eL 2) (eShl (eM eH 3) 14))],
  sWhen (eLt (eL 1) (eC 3))
   [sWhen (eLt (eL 2) (eAdd (eC 536870912) (eL 0)))
    [sWhen (eL 0) [sAs 2 (eSub (eC 0) (eL 2))],
     sVal (eShl (eL 2) 2)]],
  sPut eH 0 (eB 8 (eShl (eAdd (eL 1) (eC 1)) 5) (eC 31)),
  sPut eH 1 (eShl (eL 0) 2),
  sSet 26 (eAdd (eAdd eH (eL 1)) (eC 2)),
  sVal (eRef (eSub (eSub eH (eL 1)) (eC 2)))]⟩
def rNAdd:BR:=⟨kNAdd,3,6,false,
 [sAs 3 (eC 0),
  sAs 4 (eF kNLen [eL 0]),
  sWhen (eLt (eL 4) (eF kNLen [eL 1])) [sAs 4 (eF kNLen [eL 1])],
  sAs 5 (eC 0),
  sWh (eLt (eL 3) (eL 4))
   [sAs 5 (eAdd (eL 5) (eAdd (eF kNDig [eL 0,eL 3]) (eF kNDig [eL 1,eL 3]))),
    sPut (eAdd eH (eL 3)) 2 (eDg (eL 5)),
    sAs 5 (eShr (eL 5) 16),
    sInc 3],
  sPut (eAdd eH (eL 4)) 2 (eDg (eL 5)),
  sVal (eF kNFin [eL 2,eAdd (eL 4) (eC 1)])]⟩
def rNSub:BR:=⟨kNSub,3,6,false,
 [sAs 3 (eC 0),
  sAs 4 (eF kNLen [eL 0]),
  sAs 5 (eC 0),
  sWh (eLt (eL 3) (eL 4))
   [sAs 5 (eSub (eAdd (eC 65536) (eF kNDig [eL 0,eL 3])) (eAdd (eF kNDig [eL 1,eL 3]) (eL 5))),
    sPut (eAdd eH (eL 3)) 2 (eDg (eL 5)),
    sAs 5 (eSub (eC 1) (eShr (eL 5) 16)),
    sInc 3],
  sVal (eF kNFin [eL 2,eL 4])]⟩
def rNSum:BR:=⟨kNSum,3,5,false,
 [sAs 3 (eF kNNeg [eL 0]),
  sAs 4 (eB 9 (eF kNNeg [eL 1]) (eL 2)),
  sWhen (eQ (eL 3) (eL 4)) [sVal (eF kNAdd [eL 0,eL 1,eL 3])],
  sWhen (eF kNCmp [eL 0,eL 1]) [sVal (eF kNSub [eL 0,eL 1,eL 3])],
  sVal (eF kNSub [eL 1,eL 0,eL 4])]⟩
def eCell:BE:=eAdd eH (eAdd (eL 2) (eL 3))
def rNMul:BR:=⟨kNMul,2,7,false,
 [sAs 6 (eAdd (eF kNLen [eL 0]) (eF kNLen [eL 1])),
  sAs 2 (eC 0),
  sWh (eLt (eL 2) (eL 6)) [sPut (eAdd eH (eL 2)) 2 (eC 0),sInc 2],
  sAs 2 (eC 0),
  sWh (eLt (eL 2) (eF kNLen [eL 0]))
   [sAs 4 (eF kNDig [eL 0,eL 2]),
    sAs 5 (eC 0),
    sAs 3 (eC 0),
    sWh (eLt (eL 3) (eF kNLen [eL 1]))
     [sAs 5 (eAdd (eAdd (eL 5) (eShr (eM eCell 2) 2)) (eB 3 (eL 4) (eF kNDig [eL 1,eL 3]))),
      sPut eCell 2 (eDg (eL 5)),
      sAs 5 (eShr (eL 5) 16),
      sInc 3],
    sPut eCell 2 (eDg (eL 5)),
    sInc 2],
  sVal (eF kNFin [eB 9 (eF kNNeg [eL 0]) (eF kNNeg [eL 1]),eL 6])]⟩
def rNTop:BR:=⟨kNTop,1,3,false,
 [sAs 1 (eF kNLen [eL 0]),
  sAs 2 (eC 1),
  sWh (eL 2)
   [sAs 2 (eC 0),
    sWhen (eL 1) [sWhen (eNot (eF kNDig [eL 0,eSub (eL 1) (eC 1)])) [sAs 1 (eSub (eL 1) (eC 1)),sAs 2 (eC 1)]]],
  sVal (eL 1)]⟩
def rNShl:BR:=⟨kNShl,4,6,false,
 [sAs 4 (eC 0),
  sAs 5 (eC 0),
  sWh (eLt (eL 4) (eL 1))
   [sAs 5 (eB 8 (eL 5) (eB 10 (eF kNDig [eL 0,eL 4]) (eL 2))),
    sPut (eAdd (eL 3) (eL 4)) 0 (eAnd (eL 5) (eC 65535)),
    sAs 5 (eShr (eL 5) 16),
    sInc 4],
  sPut (eAdd (eL 3) (eL 1)) 0 (eL 5),
  sVal (eC 0)]⟩
def rNTake:BR:=⟨kNTake,4,8,false,
 [sAs 4 (eC 0),
  sAs 5 (eC 0),
  sAs 6 (eC 0),
  sWh (eLt (eL 4) (eL 2))
   [sAs 7 (eAdd (eL 5) (eB 3 (eL 3) (eM (eAdd (eL 1) (eL 4)) 0))),
    sAs 5 (eShr (eL 7) 16),
    sAs 7 (eSub (eAdd (eC 65536) (eM (eAdd (eL 0) (eL 4)) 0)) (eAdd (eAnd (eL 7) (eC 65535)) (eL 6))),
    sPut (eAdd (eL 0) (eL 4)) 0 (eAnd (eL 7) (eC 65535)),
    sAs 6 (eSub (eC 1) (eShr (eL 7) 16)),
    sInc 4],
  sAs 7 (eSub (eAdd (eC 65536) (eM (eAdd (eL 0) (eL 2)) 0)) (eAdd (eL 5) (eL 6))),
  sPut (eAdd (eL 0) (eL 2)) 0 (eAnd (eL 7) (eC 65535)),
  sVal (eSub (eC 1) (eShr (eL 7) 16))]⟩
def rNBack:BR:=⟨kNBack,3,5,false,
 [sAs 3 (eC 0),
  sAs 4 (eC 0),
  sWh (eLt (eL 3) (eL 2))
   [sAs 4 (eAdd (eL 4) (eAdd (eM (eAdd (eL 0) (eL 3)) 0) (eM (eAdd (eL 1) (eL 3)) 0))),
    sPut (eAdd (eL 0) (eL 3)) 0 (eAnd (eL 4) (eC 65535)),
    sAs 4 (eShr (eL 4) 16),
    sInc 3],
  sAs 4 (eAdd (eL 4) (eM (eAdd (eL 0) (eL 2)) 0)),
  sPut (eAdd (eL 0) (eL 2)) 0 (eAnd (eL 4) (eC 65535)),
  sVal (eShr (eL 4) 16)]⟩
def eAt:BE:=eAdd (eL 6) (eL 8)
def eTop:BE:=eB 8 (eShl (eM (eAdd eAt (eL 4)) 0) 16) (eM (eAdd eAt (eL 4)) (-1))
def rNDiv:BR:=⟨kNDiv,3,11,false,
 [sWhen (eNot (eF kNCmp [eL 0,eL 1]))
  [sWhen (eL 2) [sVal (eF kNAdd [eL 0,eC 0,eF kNNeg [eL 0]])],
   sVal (eC 0)],
  sAs 3 (eF kNTop [eL 0]),
  sAs 4 (eF kNTop [eL 1]),
  sAs 5 (eC 0),
  sAs 9 (eF kNDig [eL 1,eSub (eL 4) (eC 1)]),
  sWh (eLt (eB 10 (eL 9) (eL 5)) (eC 32768)) [sInc 5],
  sAs 6 (eAdd (eAdd eH (eL 3)) (eC 4)),
  sAs 7 (eAdd (eAdd (eL 6) (eL 3)) (eC 1)),
  sDo (eF kNShl [eL 0,eL 3,eL 5,eL 6]),
  sDo (eF kNShl [eL 1,eL 4,eL 5,eL 7]),
  sAs 8 (eAdd (eSub (eL 3) (eL 4)) (eC 1)),
  sWh (eL 8)
   [sAs 8 (eSub (eL 8) (eC 1)),
    sAs 9 (eB 5 eTop (eM (eAdd (eL 7) (eL 4)) (-1))),
    sWhen (eLt (eC 65535) (eL 9)) [sAs 9 (eC 65535)],
    sAs 10 (eF kNTake [eAt,eL 7,eL 4,eL 9]),
    sWh (eL 10)
     [sAs 9 (eSub (eL 9) (eC 1)),
      sWhen (eF kNBack [eAt,eL 7,eL 4]) [sAs 10 (eC 0)]],
    sPut (eAdd eH (eL 8)) 2 (eDg (eL 9))],
  sWhen (eNot (eL 2)) [sVal (eF kNFin [eB 9 (eF kNNeg [eL 0]) (eF kNNeg [eL 1]),eAdd (eSub (eL 3) (eL 4)) (eC 1)])],
  sAs 8 (eC 0),
  sWh (eLt (eL 8) (eL 4))
   [sAs 9 (eB 8 (eShl (eM (eAdd eAt (eC 1)) 0) 16) (eM eAt 0)),
    sPut (eAdd eH (eL 8)) 2 (eDg (eB 11 (eL 9) (eL 5))),
    sInc 8],
  sVal (eF kNFin [eF kNNeg [eL 0],eL 4])]⟩
def bTypes:List BS:=[sWhen (eNot (eF kNInt [eL 0])) [sHlt (eC 2)],sWhen (eNot (eF kNInt [eL 1])) [sHlt (eC 2)]]
def bNRoom:List BS :=
 [sKeep 16 (eL 0),sKeep 17 (eL 1),sKeep 8 (eC 2),sKeep 6 eK,
  sAs 2 (eAdd (eF kNLen [eL 0]) (eF kNLen [eL 1])),
  sDo (eF kReserve [eAdd (eAdd (eL 2) (eShl (eL 2) 1)) (eC 20)]),
  sAs 0 (eW 16),sAs 1 (eW 17),sKeep 8 (eC 0),sKeep 6 (eC 0)]
def Z3b (op:Int)(l:List BS):BR:=⟨kRt op,2,3,true,bTypes++l⟩
def Z3c (op:Int)(ahead:List BS)(v:BE):BR:=Z3b op (ahead++(bNRoom++[sVal v]))
def Z69:List BS:=[sWhen (eNot (eL 1)) [sHlt (eC 4)]]
def sTruth (e:BE):BS:=sIf e [sVal (eC 22)] [sVal (eC 6)]
def eSigns:BE:=eQ (eF kNNeg [eL 0]) (eF kNNeg [eL 1])
def rPEq:BR:=Z3b 13 [sTruth (eAnd eSigns (eQ (eF kNCmp [eL 0,eL 1]) (eC 1)))]
def rPLess:BR:=Z3b 14
 [sWhen (eNot eSigns) [sTruth (eF kNNeg [eL 0])],
  sWhen (eF kNNeg [eL 0]) [sTruth (eQ (eF kNCmp [eL 0,eL 1]) (eC 2))],
  sTruth (eNot (eF kNCmp [eL 0,eL 1]))]
def rPAdd (k:Int):BR:=Z3c (8+k) [] (eF kNSum [eL 0,eL 1,eC k])
def rPQuo (k:Int):BR:=Z3c (11+k) Z69 (eF kNDiv [eL 0,eL 1,eC k])
def rPMul:BR:=Z3c 10 [] (eF kNMul [eL 0,eL 1])
def rs27:List BR:=[rNInt,rNLen,rNNeg,rNDig,rNCmp,rNFin,rNAdd,rNSub,rNSum,rNMul,rNTop,rNShl,rNTake,rNBack,rNDiv,rPAdd 0,rPQuo 0,rPAdd 1,rPQuo 1,rPMul,rPEq,rPLess]
def objs27:List Obj:=rs27.map ofR
end S
section
namespace S
structure Sim (st st1:Vw):Prop where
 mem:st1.mem=st.mem
 reg:∀j,¬(4<=j/\j<=7)->st1.reg j=st.reg j
 inp:st1.inp=st.inp
 out:st1.out=st.out
mutual
def dE:BE->Nat
 | .mk _ _ _ kids=>dEs kids
def dEs:List BE->Nat
 | []=>0
 | e::r=>max (dE e) (dEs r+1)
end
def Yl (I:Img)(dep lk:Int)(env:List Int)(st:Vw)(e:BE)(x:Int)(K:Nat):Prop :=
 ∀(at_:Nat)(st1:Vw)(c:Nat)(Q H:Int->Vw->Nat->Prop),at_+dE e<=20->Sim st st1->(∀st2 c2,Sim st st2->c2<=c+K->Q x st2 c2)->wpE I dep lk env e at_ st1 c Q H
def Yls (I:Img)(dep lk:Int)(env:List Int)(st:Vw)(l:List BE)(xs:List Int)(K:Nat):Prop :=
 ∀(at_:Nat)(st1:Vw)(c:Nat)(Q:List Int->Vw->Nat->Prop)(H:Int->Vw->Nat->Prop),at_+dEs l<=20->Sim st st1->(∀st2 c2,Sim st st2->c2<=c+K->Q xs st2 c2)->wpEs I dep lk env l at_ st1 c Q H
def RetN (st:Vw)(x:Int)(K:Nat)(o:BO)(k:Nat):Prop:=∃st',o=.ret st'/\st'.reg 4=x/\Sim st st'/\k<=K
def Tells (I:Img)(name:ByteArray)(st:Vw)(xs:List Int)(d:Int)(x:Int)(K:Nat):Prop :=
 ∀st1,Sim st st1->Real I name false (st1.args xs) d (λ _ o k=>RetN st x K o k)
def WS (I:Img)(dep lk:Int)(behind:Bool)(l:List BS)(env:List Int)(st:Vw)(C:Nat)(Q:List Int->Vw->Nat->Prop)(R:BO->Nat->Prop):Prop :=
 ∀st1 c,Sim st st1->c<=C->wpSs I dep lk behind l env st1 c Q R
end S
theorem S.Sim.refl (st:S.Vw):S.Sim st st:=⟨rfl,λ _ _=>rfl,rfl,rfl⟩
theorem S.Sim.trans {a b c:S.Vw}(h:S.Sim a b)(k:S.Sim b c):S.Sim a c:=⟨k.mem.trans h.mem,λ j d=>(k.reg j d).trans (h.reg j d),k.inp.trans h.inp,k.out.trans h.out⟩
theorem S.Sim.sto {a b:S.Vw}(h:S.Sim a b)(p x:Int):S.Sim (a.sto p x) (b.sto p x):=⟨by
 funext y
 show(if y=p then x else b.mem y)=if y=p then x else a.mem y
 rw[h.mem],h.reg,h.inp,h.out⟩
theorem S.Sim.set {a b:S.Vw}(h:S.Sim a b)(p x:Int):S.Sim (a.set p x) (b.set p x):=⟨h.mem,λ j c=>by
 show(if j=p then x else b.reg j)=if j=p then x else a.reg j
 rw[h.reg j c],h.inp,h.out⟩
theorem S.Sim.set4 {a b:S.Vw}(h:S.Sim a b)(x:Int):S.Sim a (b.set 4 x):=⟨h.mem,λ j c=>by
 show(if j=4 then x else b.reg j)=_
 rw[if_neg (by omega)];exact h.reg j c,h.inp,h.out⟩
theorem S.Sim.args {a b:S.Vw}(h:S.Sim a b){xs:List Int}(hl:xs.length<=4):S.Sim a (b.args xs):=⟨h.mem,λ j c=>by
 show(if 4<=j/\j<4+(xs.length:Int) then _ else b.reg j)=_
 rw[if_neg (by omega)];exact h.reg j c,h.inp,h.out⟩
section
variable {I:S.Img}{dep lk:Int}{env:List Int}{st:S.Vw}
theorem Zp (n:Int):S.Yl I dep lk env st (S.eC n) (n%4294967296) 2:=λ at_ a c Q H _ hs h=>by
 rw[Z7k];exact h _ _ hs (Yb _)
theorem Zs (n:Int):S.Yl I dep lk env st (S.eL n) (env.getD n.toNat 0) 1:=λ at_ a c Q H _ hs h=>by
 rw[Z7l];exact h _ _ hs (Yb _)
theorem Zyl {n:Int}(d:¬(4<=n/\n<=7)):S.Yl I dep lk env st (S.eR n) (st.reg n) 1:=λ at_ a c Q H _ hs h=>by
 rw[Z7m,hs.reg n d];exact h _ _ hs (Yb _)
theorem Z8v:S.Yl I dep lk env st S.eK lk 1:=λ at_ a c Q H _ hs h=>by
 rw[Z7q];exact h _ _ hs (Yb _)
theorem S.Yl.to_ {e:S.BE}{x y:Int}{K f:Nat}(h:S.Yl I dep lk env st e x K)(j:x=y)(hK:K<=f):S.Yl I dep lk env st e y f:=λ at_ a c Q H g hs i=>by
 subst j;exact h at_ a c Q H g hs λ d c2 h2 hc=>i d c2 h2 (by omega)
theorem Z76 (op n:Int)(nm:ByteArray)(a b:S.BE):S.dE (.mk op n nm [a,b])=max (S.dE a) (max (S.dE b) 1+1):=by
 rw[S.dE,S.dEs,S.dEs,S.dEs]
theorem Z8w (op n:Int)(nm:ByteArray)(a:S.BE):S.dE (.mk op n nm [a])=max (S.dE a) 1:=by
 rw[S.dE,S.dEs,S.dEs]
theorem Z5w {op:Int}{a b:S.BE}{x y:Int}{i j:Nat}(s:y=0->op≠5/\op≠6)(o:S.Yl I dep lk env st a x i)(l:S.Yl I dep lk env st b y j):S.Yl I dep lk env st (S.eB op a b) (alu op x y) (i+j+1):=λ at_ d c Q H f hs h=>by
 have r:S.dE (S.eB op a b)=_:=Z76 _ _ _ a b;rw[r] at f;rw[Z7n];exact o at_ d c _ _ (by omega) hs λ g c2 h2 q=>l (at_+1) g c2 _ _ (by omega) h2 λ e c3 h3 n=>⟨s,h e (c3+1) h3 (by omega)⟩
theorem Zo {op:Int}{a b:S.BE}{x y:Int}{c d:Nat}(f:op≠5/\op≠6)(g:S.Yl I dep lk env st a x c)(e:S.Yl I dep lk env st b y d):S.Yl I dep lk env st (S.eB op a b) (alu op x y) (c+d+1):=Z5w (λ _=>f) g e
theorem Zgt {a b:S.BE}{x y:Int}{i j:Nat}(o:S.Yl I dep lk env st a x i)(l:S.Yl I dep lk env st b y j):S.Yl I dep lk env st (S.eQ a b) (if x=y then 1 else 0) (i+j+3):=λ at_ d c Q H f hs h=>by
 have r:S.dE (S.eQ a b)=_:=Z76 _ _ _ a b;rw[r] at f;rw[Z7p];exact o at_ d c _ _ (by omega) hs λ g c2 h2 q=>l (at_+1) g c2 _ _ (by omega) h2 λ e c3 h3 n=>h e (c3+3) h3 (by omega)
theorem Zmn {a:S.BE}{n x p:Int}{K:Nat}(j:S.Yl I dep lk env st a x K)(hp:u32m (x+n)=p)(i:p<I.size/\¬I.stk p):S.Yl I dep lk env st (S.eM a n) (st.mem p) (K+1):=λ at_ d c Q H f hs h=>by
 have e:S.dE (S.eM a n)=_:=Z8w _ _ _ a;rw[e] at f;rw[Z7o];refine j at_ d c _ _ (by omega) hs λ g c2 h2 l=>?_
 rw[hp];refine⟨i.1,i.2,?_⟩;rw[h2.mem];exact h g (c2+1) h2 (by omega)
theorem Zf:S.Yls I dep lk env st [] [] 0:=λ at_ a c Q H _ hs h=>by
 rw[S.wpEs];exact h _ _ hs (Yb _)
theorem Za {e:S.BE}{r:List S.BE}{x:Int}{xs:List Int}{K L:Nat}(l:S.Yl I dep lk env st e x K)(n:S.Yls I dep lk env st r xs L):S.Yls I dep lk env st (e::r) (x::xs) (K+L):=λ at_ a c Q H f hs h=>by
 rw[S.dEs] at f;rw[S.wpEs];exact l at_ a c _ _ (by omega) hs λ g c2 h2 j=>n (at_+1) g c2 _ _ (by omega) h2 λ d c3 h3 i=>h d c3 h3 (by omega)
theorem Zct {name:ByteArray}{l:List S.BE}{xs:List Int}{K L:Nat}{d x:Int}(v:S.Yls I dep lk env st l xs K)(n:xs.length<=4)(t:S.Tells I name st xs d x L)(r:d<=dep):S.Yl I dep lk env st (S.eF name l) x (K+L+48):=λ at_ f c Q H e hs h=>by
 have i:S.dE (S.eF name l)=S.dEs l:=by rw[S.eF,S.dE]
 rw[i] at e;rw[Zqw];refine v at_ f c _ _ e hs λ j c2 h2 q=>?_
 refine⟨d,_,t j h2,r,λ ret o k u=>?_⟩;obtain⟨a,rfl,s,g,hk⟩:=u
 show Q (a.reg 4) a (c2+2*at_+xs.length+4+k)
 rw[s];exact h a _ g (by omega)
end
section
variable {I:S.Img}{dep lk:Int}{behind:Bool}{env:List Int}{st:S.Vw}{C:Nat}{Q:List Int->S.Vw->Nat->Prop}{R:S.BO->Nat->Prop}
theorem Zwr (h:∀a c,S.Sim st a->c<=C->Q env a c):S.WS I dep lk behind [] env st C Q R:=λ a c hs d=>by
 rw[Zxl];exact h a c hs d
theorem Zbi {r:List S.BS}(n:Nat)(h:S.WS I dep lk behind r env st (C+n) Q R):S.WS I dep lk behind [] env st C (λ env st c=>S.wpSs I dep lk behind r env st (c+n) Q R) R:=Zwr λ a c hs hc=>h a (c+n) hs (by omega)
theorem Zro {r:List S.BS}(h:S.WS I dep lk behind r env st C Q R):S.WS I dep lk behind [] env st C (λ env st c=>S.wpSs I dep lk behind r env st c Q R) R:=Zwr λ a c hs d=>h a c hs d
theorem S.WS.more {l:List S.BS}{d:Nat}(h:S.WS I dep lk behind l env st d Q R)(hc:C<=d):S.WS I dep lk behind l env st C Q R:=λ a c hs h2=>h a c hs (by omega)
theorem Zq {n:Int}{e:S.BE}{r:List S.BS}{x:Int}{K:Nat}(g:S.Yl I dep lk env st e x K)(hd:S.dE e<=20)(h:S.WS I dep lk behind r (env.set n.toNat x) st (C+K+1) Q R):S.WS I dep lk behind (S.sAs n e::r) env st C Q R:=λ a c hs hc=>by
 rw[Zbp,Zxm];exact g 0 a c _ _ (by omega) hs λ d c2 h2 f=>h d (c2+1) h2 (by omega)
theorem Z5x {n:Int}{e:S.BE}{r:List S.BS}{x:Int}{K:Nat}(g:S.Yl I dep lk env st e x K)(hd:S.dE e<=20)(h:S.WS I dep lk behind r env (st.set n x) (C+K+1) Q R):S.WS I dep lk behind (S.sSet n e::r) env st C Q R:=λ a c hs hc=>by
 rw[Zbp,Zxq];exact g 0 a c _ _ (by omega) hs λ d c2 h2 f=>h (d.set n x) (c2+1) (h2.set n x) (by omega)
theorem Zb3 {a e:S.BE}{n:Int}{r:List S.BS}{y x p:Int}{j i:Nat}(o:S.Yl I dep lk env st a y j)(s:S.Yl I dep lk env st e x i)(t:S.dE a<=20)(hd:S.dE e<=19)(hp:u32m (y+n)=p)(h1:p<I.size/\¬I.stk p/\¬I.code p)(h:S.WS I dep lk behind r env (st.sto p x) (C+j+i+1) Q R):S.WS I dep lk behind (S.sPut a n e::r) env st C Q R:=λ d c hs hc=>by
 rw[Zbp,Zqx];refine o 0 d c _ _ (by omega) hs λ g c2 h2 q=>s 1 g c2 _ _ (by omega) h2 λ f c3 h3 l=>?_
 rw[hp];exact⟨h1.1,h1.2.1,h1.2.2,h (f.sto p x) (c3+1) (h3.sto p x) (by omega)⟩
theorem Zz5 {e:S.BE}{b l r:List S.BS}{x:Int}{K:Nat}(g:S.Yl I dep lk env st e x K)(hd:S.dE e<=20)(h0:x=0->S.WS I dep lk behind l env st (C+K+4) (λ env st c=>S.wpSs I dep lk behind r env st c Q R) R)
 (h1:x≠0->S.WS I dep lk behind b env st (C+K+4) (λ env st c=>S.wpSs I dep lk behind r env st (c+3) Q R) R):S.WS I dep lk behind (S.sIf e b l::r) env st C Q R:=λ d c hs hc=>by
 rw[Zbp,Zxn];refine g 0 d c _ _ (by omega) hs λ a c2 h2 f=>?_
 split
 .rename_i h;exact h0 h a _ h2 (by omega)
 .rename_i h;exact h1 h a _ h2 (by omega)
theorem Zr {e:S.BE}{b r:List S.BS}{x:Int}{K:Nat}(d:S.Yl I dep lk env st e x K)(a:S.dE e<=20)(h0:x=0->S.WS I dep lk behind r env st (C+K+4) Q R)
 (h1:x≠0->S.WS I dep lk behind b env st (C+K+4) (λ env st c=>S.wpSs I dep lk behind r env st (c+3) Q R) R):S.WS I dep lk behind (S.sWhen e b::r) env st C Q R:=Zz5 d a (λ h=>Zro (h0 h)) h1
theorem Zfp {e:S.BE}{b r:List S.BS}(hd:S.dE e<=20)(J:List Int->S.Vw->Nat->Nat->Prop){k0:Nat}(h0:J env st C k0)
 (q:∀env st C k,J env st C k->∃x K,S.Yl I dep lk env st e x K/\(x=0->S.WS I dep lk behind r env st (C+K+4) Q R) /\
  (x≠0->S.WS I dep lk behind b env st (C+K+4) (λ Zkd d c2=>∃k2,k2<k/\∃f i,S.Sim f d/\c2+3<=i/\J Zkd f i k2) R)):S.WS I dep lk behind (S.sWh e b::r) env st C Q R:=λ a c hs j=>by
 rw[Zbp,Z1t];refine⟨λ env a c k=>∃st C,S.Sim st a/\c<=C/\J env st C k,⟨k0,st,C,hs,j,h0⟩,λ env a c k h=>?_⟩;obtain⟨st,C,hs,j,n⟩:=h;obtain⟨x,K,o,h1,h2⟩:=q env st C k n;refine o 0 a c _ _ (by omega) hs λ d c2 g l=>?_
 split
 .rename_i h;exact h1 h d _ g (by omega)
 .rename_i h;exact h2 h d _ g (by omega)
theorem Z2 {J:List Int->S.Vw->Nat->Nat->Prop}{k k2:Nat}(g:k2<k)(h:J env st (C+3) k2):S.WS I dep lk behind [] env st C (λ Zkd d c2=>∃k2,k2<k/\∃a e,S.Sim a d/\c2+3<=e/\J Zkd a e k2) R:=Zwr λ f c hs hc=>⟨k2,g,st,C+3,hs,by omega,h⟩
theorem Zfh {e:S.BE}{r:List S.BS}{x:Int}{K:Nat}(g:S.Yl I dep lk env st e x K)(hd:S.dE e<=20)(h:∀a c2,S.Sim st a->c2<=C+K+6->R (.ret (a.set 4 x)) c2):S.WS I dep lk behind (S.sVal e::r) env st C Q R:=λ d c hs hc=>by
 rw[Zbp,S.sVal,Zxo];exact g 0 d c _ _ (by omega) hs λ a c2 h2 f=>h a _ h2 (by split <;> omega)
theorem Zws {e:S.BE}{r:List S.BS}{x:Int}{K:Nat}(g:S.Yl I dep lk env st e x K)(hd:S.dE e<=20)(h:∀a c2,S.Sim st a->c2<=C+K+1->R (.halt x a) c2):S.WS I dep lk behind (S.sHlt e::r) env st C Q R:=λ d c hs hc=>by
 rw[Zbp,Zxp];exact g 0 d c _ _ (by omega) hs λ a c2 h2 f=>h a _ h2 (by omega)
theorem Zmo {name:ByteArray}{l:List S.BE}{r:List S.BS}{xs:List Int}{K:Nat}{d:Int}{T:S.BO->Nat->Prop}(u:S.Yls I dep lk env st l xs K)(j:S.dEs l<=20)(i:xs.length<=4)(s:∀f,S.Sim st f->S.Real I name false (f.args xs) d (λ _ o k=>T o k))(q:d<=dep)
 (h:∀o k,T o k->match o with
  | .ret e=>∀c,c<=C+K+k+14->R (.ret (e.set 4 (e.reg 4))) c
  | .halt code e=>∀c,c<=C+K+k+14->R (.halt code e) c
  | .left _ _=>False):S.WS I dep lk behind (S.sVal (S.eF name l)::r) env st C Q R:=λ f c hs hc=>by
 rw[Zbp,S.sVal,Zxo,Zqw];refine u 0 f c _ _ (by omega) hs λ e c2 h2 n=>⟨d,_,s e h2,q,λ ret o k t=>?_⟩
 have g:=h o k t
 cases o with
 | ret st3=>exact g _ (by split <;> omega)
 | halt code st3=>exact g _ (by omega)
 | left a b=>exact g
theorem Z3d {name:ByteArray}{l:List S.BE}{r:List S.BS}{xs:List Int}{K:Nat}{d:Int}{T:S.BO->Nat->Prop}(u:S.Yls I dep lk env st l xs K)(j:S.dEs l<=20)(i:xs.length<=4)(s:∀f,S.Sim st f->S.Real I name false (f.args xs) d (λ _ o k=>T o k))(q:d<=dep)
 (h:∀o k,T o k->match o with
  | .ret e=>S.WS I dep lk behind r env e (C+K+k+8) Q R
  | .halt code e=>∀c,c<=C+K+k+8->R (.halt code e) c
  | .left _ _=>False):S.WS I dep lk behind (S.sDo (S.eF name l)::r) env st C Q R:=λ f c hs hc=>by
 rw[Zbp,Z1u,Zqw];refine u 0 f c _ _ (by omega) hs λ e c2 h2 n=>⟨d,_,s e h2,q,λ ret o k t=>?_⟩
 have g:=h o k t
 cases o with
 | ret st3=>exact g st3 _ (.refl st3) (by omega)
 | halt code st3=>exact g _ (by omega)
 | left a b=>exact g
theorem Zcy (e:I.Ok)(r:S.BR)(d:chkB r=0){i:Nat}(hs:S.Seg I r.name i (S.bItems r)){dep:Int}(a:0<=dep)(st:S.Vw)(R:S.BO->Nat->Prop)
 (g:∀(lk:Int)(env:List Int),(env.length:Int)=r.locals->(∀k:Nat,(k:Int)<r.params->env.getD k 0=st.reg (4+k))->S.WS I dep lk r.behind r.body env st 8 (λ _ c f=>R (.ret c) (f+(if r.behind=true then 5 else 3))) R) :
 S.Real I r.name r.behind st (r.locals+15+dep) (λ _ o k=>R o k):=by
 have p4:=(Zc5 d).2.2.1;exact Zg4 e r d hs a st _ λ lk env _ _ h hp=>g lk env h hp st _ (.refl st) (by omega)
theorem Zdv (l:I.Ok)(r:S.BR)(g:chkB r=0){i:Nat}(hs:S.Seg I r.name i (S.bItems r)){dep:Int}(c:0<=dep)(f:r.behind=false){st:S.Vw}{xs:List Int}(hp:r.params=xs.length){x:Int}{K:Nat}
 (n:∀(lk:Int)(env:List Int)(j:S.Vw),(env.length:Int)=r.locals->(∀k:Nat,k<xs.length->env.getD k 0=xs.getD k 0)->S.Sim st j->∀Q,S.WS I dep lk false r.body env j 8 Q (S.RetN st x K)) :
 S.Tells I r.name st xs (r.locals+15+dep) x K:=λ a e=>by
 have p4:=(Zc5 g).2.2.1;have h:=Zcy l r g hs c (a.args xs) (S.RetN st x K) λ lk env o d=>by
  rw[f];exact n lk env (a.args xs) o (λ k hk=>by
   rw[d k (by omega)]
   show(if (4:Int)<=4+(k:Int)/\4+(k:Int)<4+(xs.length:Int) then xs.getD (4+(k:Int)-4).toNat 0 else _)=_
   rw[if_pos (by omega),show(4+(k:Int)-4).toNat=k by omega]) (e.args (by omega)) _
 rw[f] at h;exact h
theorem Zb7 {a:S.Vw}{e:S.BE}{r:List S.BS}{x:Int}{K N:Nat}(f:S.Yl I dep lk env st e x K)(d:S.dE e<=20)(hs:S.Sim a st)(hN:C+K+6<=N):S.WS I dep lk behind (S.sVal e::r) env st C Q (S.RetN a x N):=Zfh f d λ g c2 h2 c=>⟨_,rfl,rfl,(hs.trans h2).set4 _,by omega⟩
end
end
section
namespace S
def fixM (v:Int):Int:=if v<2147483648 then v/4 else(4294967296-v)/4
structure NumAt (I:Img)(mem:Int->Int)(v neg:Int)(ds:List Int):Prop where
 vb:0<=v/\v<4294967296
 sg:neg=0\/neg=1
 dig:∀d∈ds,0<=d/\d<65536
 few:ds.length<=1000
 cases:(v%4=0/\neg=v/2147483648/\ds=[fixM v%65536,fixM v/65536]) \/
  (∃p,v=4*p+1/\(∀j:Nat,j<ds.length+2->Dat I (p+j))/\mem p=32*(ds.length+1)+31/\mem (p+1)=4*neg/\∀i:Nat,i<ds.length->mem (p+2+i)=4*ds.getD i 0)
structure NSegs (I:Img):Prop where
 ok:I.Ok
 int:∃i,Seg I kNInt i (bItems rNInt)
 len:∃i,Seg I kNLen i (bItems rNLen)
 neg:∃i,Seg I kNNeg i (bItems rNNeg)
 dig:∃i,Seg I kNDig i (bItems rNDig)
 cmp:∃i,Seg I kNCmp i (bItems rNCmp)
 fin:∃i,Seg I kNFin i (bItems rNFin)
 add:∃i,Seg I kNAdd i (bItems rNAdd)
 sub:∃i,Seg I kNSub i (bItems rNSub)
 sum:∃i,Seg I kNSum i (bItems rNSum)
 mul:∃i,Seg I kNMul i (bItems rNMul)
 top:∃i,Seg I kNTop i (bItems rNTop)
 shl:∃i,Seg I kNShl i (bItems rNShl)
 take:∃i,Seg I kNTake i (bItems rNTake)
 back:∃i,Seg I kNBack i (bItems rNBack)
 div:∃i,Seg I kNDiv i (bItems rNDiv)
end S
theorem Zmp {env:List Int}(h:(env.length:Int)=3):∃a b c,env=[a,b,c]:=by
 match env,h with
 | [a,b,c],_=>exact⟨a,b,c,rfl⟩
 | [],h=>simp at h
 | [_],h=>simp at h
 | [_,_],h=>simp at h
 | _::_::_::_::_,h=>simp only[Yj] at h;omega
theorem Zz6 {env:List Int}(h:(env.length:Int)=1):∃a,env=[a]:=by
 match env,h with
 | [a],_=>exact⟨a,rfl⟩
 | [],h=>simp at h
 | _::_::_,h=>simp only[Yj] at h;omega
theorem Zwt {v:Int}(h:0<=v/\v<4294967296):0<=S.fixM v/\S.fixM v<=536870912:=by
 unfold S.fixM
 split <;> omega
theorem S.NumAt.same {I:S.Img}{mem a:Int->Int}{v neg:Int}{c:List Int}(h:S.NumAt I mem v neg c)(hm:∀p,v=4*p+1->∀j:Nat,j<c.length+2->a (p+j)=mem (p+j)):S.NumAt I a v neg c:=by
 refine⟨h.vb,h.sg,h.dig,h.few,?_⟩;rcases h.cases with q|⟨p,e,d,h0,h1,h2⟩
 .exact .inl q
 .refine .inr ⟨p,e,d,?_,?_,λ i hi=>?_⟩
  .have:=hm p e 0 (by omega)
   simp only[Int.natCast_zero,Int.add_zero] at this;rw[this];exact h0
  .have:=hm p e 1 (by omega)
   rw[show p+((1:Nat):Int)=p+1 by omega] at this;rw[this];exact h1
  .have:=hm p e (i+2) (by omega)
   rw[show p+((i+2:Nat):Int)=p+2+i by omega] at this;rw[this];exact h2 i hi
section
variable {I:S.Img}{dep lk:Int}{env:List Int}{st:S.Vw}
theorem Zop {e:S.BE}{v:Int}{K:Nat}(h:S.Yl I dep lk env st e v K)(a:0<=v/\v<4294967296):S.Yl I dep lk env st (S.eFix e) (if v%4=0 then 1 else 0) (K+8):=by
 refine(Zgt (Zo (by decide) h (Zp 3)) (Zp 0)).to_ ?_ (by omega);rw[Z4l a.1 a.2];rfl
theorem Zrp {e:S.BE}{p:Int}{K:Nat}(h:S.Yl I dep lk env st e (4*p+1) K):S.Yl I dep lk env st (S.eAdr e) p (K+3):=by
 refine(Zo (by decide) h (Zp 2)).to_ ?_ (by omega);rw[Z4m];omega
theorem Zdw {p:Int}:¬(4*p+1)%4=0:=by omega
end
section
variable {I:S.Img}(hN:S.NSegs I)
include hN
theorem Za9 {st:S.Vw}{v neg:Int}{g:List Int}(h:S.NumAt I st.mem v neg g):S.Tells I S.kNLen st [v] 16 g.length 60:=by
 obtain⟨i,hi⟩:=hN.len;refine Zdv hN.ok S.rNLen (by kernel_rfl) hi (dep:=0) (by decide) rfl rfl λ lk env l A hp c Q=>?_
 obtain⟨f,rfl⟩:=Zz6 A;have h0:f=v:=hp 0 (show 0<1 by decide);subst h0;have d:S.Yl I 0 lk [f] l (S.eL 0) f 1:=Zs 0;have hf:=Zop d h.vb
 show S.WS I 0 lk false [S.sWhen (S.eFix (S.eL 0)) [S.sVal (S.eC 2)],S.sVal (S.eSub (S.eShr (S.eM (S.eAdr (S.eL 0)) 0) 5) (S.eC 1))] [f] l 8 _ _
 have hm:l.mem=st.mem:=c.mem;rcases h.cases with⟨s,q2,B⟩|⟨p,e,t,z,m1,m2⟩
 .exact Zr (hf.to_ (if_pos s) (Yb _)) (by decide) (λ h=>by cases h) λ _=>Zb7 ((Zp 2).to_ (by rw[B];rfl) (Yb _)) (by decide) c (by decide)
 .refine Zr (hf.to_ (if_neg (by rw[e];exact Zdw)) (Yb _)) (by decide) (λ _=>?_) λ h=>absurd rfl h
  have a:=t 0 (by omega);rw[show p+((0:Nat):Int)=p by omega] at a;have r:=hN.ok.size2;have j:u32m (p+0)=p:=by
   have:=a.1;have:=a.2.1;unfold u32m;omega
  have o:=Zmn (n:=0) (Zrp (d.to_ e (Yb _))) j (Za7 a);rw[hm,z] at o;have q:=h.few;have u:=(Zo (op:=2) (by decide) (Zo (op:=11) (by decide) o (Zp 5)) (Zp 1)).to_ (y:=g.length) (by rw[Z73,Zkc];unfold u32m;omega) (Yb _);exact Zb7 u (by decide) c (by decide)
theorem Za1 {st:S.Vw}{v neg:Int}{t:List Int}(h:S.NumAt I st.mem v neg t):S.Tells I S.kNNeg st [v] 16 neg 60:=by
 obtain⟨i,hi⟩:=hN.neg;refine Zdv hN.ok S.rNNeg (by kernel_rfl) hi (dep:=0) (by decide) rfl rfl λ lk env j z hp d Q=>?_
 obtain⟨f,rfl⟩:=Zz6 z;have h0:f=v:=hp 0 (show 0<1 by decide);subst h0;have c:S.Yl I 0 lk [f] j (S.eL 0) f 1:=Zs 0;have hf:=Zop c h.vb
 show S.WS I 0 lk false [S.sWhen (S.eFix (S.eL 0)) [S.sVal (S.eShr (S.eL 0) 31)],S.sVal (S.eShr (S.eM (S.eAdr (S.eL 0)) 1) 2)] [f] j 8 _ _
 have hm:j.mem=st.mem:=d.mem;rcases h.cases with⟨q,u,q3⟩|⟨p,e,r,m0,m1,m2⟩
 .exact Zr (hf.to_ (if_pos q) (Yb _)) (by decide) (λ h=>by cases h) λ _=>Zb7 ((Zo (op:=11) (by decide) c (Zp 31)).to_ (by rw[u];rfl) (Yb _)) (by decide) d (by decide)
 .refine Zr (hf.to_ (if_neg (by rw[e];exact Zdw)) (Yb _)) (by decide) (λ _=>?_) λ h=>absurd rfl h
  have a:=r 1 (by omega);rw[show p+((1:Nat):Int)=p+1 by omega] at a;have o:=hN.ok.size2;have g:u32m (p+1)=p+1:=by
   have:=a.1;have:=a.2.1;unfold u32m;omega
  have l:=Zmn (n:=1) (Zrp (c.to_ e (Yb _))) g (Za7 a);rw[hm,m1] at l;have s:=(Zo (op:=11) (by decide) l (Zp 2)).to_ (y:=neg) (by rw[Z4m];omega) (Yb _);exact Zb7 s (by decide) d (by decide)
theorem Zjk {st:S.Vw}{v neg:Int}{z:List Int}(h:S.NumAt I st.mem v neg z):S.Tells I S.kNInt st [v] 16 1 80:=by
 obtain⟨i,hi⟩:=hN.int;refine Zdv hN.ok S.rNInt (by kernel_rfl) hi (dep:=0) (by decide) rfl rfl λ lk env j D hp d Q=>?_
 obtain⟨f,rfl⟩:=Zz6 D;have h0:f=v:=hp 0 (show 0<1 by decide);subst h0;have c:S.Yl I 0 lk [f] j (S.eL 0) f 1:=Zs 0;have hf:=Zop c h.vb
 show S.WS I 0 lk false [S.sWhen (S.eFix (S.eL 0)) [S.sVal (S.eC 1)],S.sWhen (S.eNot (S.isRef (S.eL 0))) [S.sVal (S.eC 0)],S.sVal (S.eQ (S.eAnd (S.eM (S.eAdr (S.eL 0)) 0) (S.eC 31)) (S.eC 31))] [f] j 8 _ _
 have hm:j.mem=st.mem:=d.mem;rcases h.cases with⟨s,q2,q3⟩|⟨p,e,t,A,m1,m2⟩
 .exact Zr (hf.to_ (if_pos s) (Yb _)) (by decide) (λ h=>by cases h) λ _=>Zb7 (Zp 1) (by decide) d (by decide)
 .refine Zr (hf.to_ (if_neg (by rw[e];exact Zdw)) (Yb _)) (by decide) (λ _=>?_) λ h=>absurd rfl h
  have o:=h.vb;have B:alu 7 f (3%4294967296)=1:=by
   rw[Z4l o.1 o.2];omega
  have y0:=Zo (op:=7) (by decide) c (Zp 3);rw[B] at y0;refine Zr ((Zgt (Zgt y0 (Zp 1)) (Zp 0)).to_ (y:=0) rfl (Yb _)) (by decide) (λ _=>?_) λ h=>absurd rfl h
  have a:=t 0 (by omega);rw[show p+((0:Nat):Int)=p by omega] at a;have r:=hN.ok.size2;have g:u32m (p+0)=p:=by
   have:=a.1;have:=a.2.1;unfold u32m;omega
  have l:=Zmn (n:=0) (Zrp (c.to_ e (Yb _))) g (Za7 a);rw[hm,A] at l;have q:=h.few;have u:=(Zgt (Zo (op:=7) (by decide) l (Zp 31)) (Zp 31)).to_ (y:=1) (by
   rw[Z61 (by omega) (by omega),if_pos (by omega)]) (Yb _)
  exact Zb7 u (by decide) d (by decide)
theorem Zk8 {st:S.Vw}{v:Int}(e:0<=v/\v<4294967296)(h:v%4=2):S.Tells I S.kNInt st [v] 16 0 80:=by
 obtain⟨i,hi⟩:=hN.int;refine Zdv hN.ok S.rNInt (by kernel_rfl) hi (dep:=0) (by decide) rfl rfl λ lk env f j hp d Q=>?_
 obtain⟨c,rfl⟩:=Zz6 j;have h0:c=v:=hp 0 (show 0<1 by decide);subst h0;have a:S.Yl I 0 lk [c] f (S.eL 0) c 1:=Zs 0;have hf:=Zop a e
 show S.WS I 0 lk false [S.sWhen (S.eFix (S.eL 0)) [S.sVal (S.eC 1)],S.sWhen (S.eNot (S.isRef (S.eL 0))) [S.sVal (S.eC 0)],S.sVal (S.eQ (S.eAnd (S.eM (S.eAdr (S.eL 0)) 0) (S.eC 31)) (S.eC 31))] [c] f 8 _ _
 refine Zr (hf.to_ (if_neg (by omega)) (Yb _)) (by decide) (λ _=>?_) λ h=>absurd rfl h
 have g:alu 7 c (3%4294967296)=2:=by
  rw[Z4l e.1 e.2];omega
 have y0:=Zo (op:=7) (by decide) a (Zp 3);rw[g] at y0;exact Zr ((Zgt (Zgt y0 (Zp 1)) (Zp 0)).to_ (y:=1) rfl (Yb _)) (by decide) (λ h=>by cases h) λ _=>Zb7 (Zp 0) (by decide) d (by decide)
end
end
section
theorem Zoq {x:Int}(h0:0<=x)(h1:x<4294967296):alu 7 x (65535%4294967296)=x%65536:=Zh5 16 65535 (by decide) (by decide) h0 h1
theorem Zkj (x:Int):alu 11 x (16%4294967296)=x/65536:=rfl
theorem Z8x (x:Int):alu 12 x (2%4294967296)=u32m (sgn x/4):=rfl
theorem Z77 (x y:Int):alu 3 x y=u32m (x*y):=rfl
theorem Z3e {v:Int}(h:0<=v/\v<4294967296)(h4:v%4=0):(v/2147483648=0->u32m (sgn v/4)=S.fixM v)/\(v/2147483648≠0->u32m (0-u32m (sgn v/4))=S.fixM v):=by
 unfold u32m sgn S.fixM
 constructor
 .intro h1
  split <;> split <;> omega
 .intro h1
  split <;> split <;> omega
section
variable {I:S.Img}(hN:S.NSegs I)
include hN
theorem Zba {st:S.Vw}{v neg i:Int}{s:List Int}(h:S.NumAt I st.mem v neg s)(hi:0<=i/\i<4294967296):S.Tells I S.kNDig st [v,i] 34 (s.getD i.toNat 0) 250:=by
 obtain⟨iD,W⟩:=hN.dig;refine Zdv hN.ok S.rNDig (by kernel_rfl) W (dep:=16) (by decide) rfl rfl λ lk env o hl hp g Q=>?_
 obtain⟨f,a,d,rfl⟩:=Zmp hl;have h0:f=v:=hp 0 (show 0<2 by decide);have h1:a=i:=hp 1 (show 1<2 by decide);subst h0 h1;have hm:o.mem=st.mem:=g.mem;have V:S.NumAt I o.mem f neg s:=by rw[hm];exact h
 have j:∀d,S.Yl I 16 lk [f,a,d] o (S.eL 0) f 1:=λ d=>Zs 0
 have r:∀d,S.Yl I 16 lk [f,a,d] o (S.eL 1) a 1:=λ d=>Zs 1
 have z:∀d,S.Yl I 16 lk [f,a,d] o (S.eL 2) d 1:=λ d=>Zs 2
 have hf:=Zop (j d) h.vb
 show S.WS I 16 lk false [S.sIf (S.eFix (S.eL 0))
  [S.sAs 2 (S.eB 12 (S.eL 0) (S.eC 2)),S.sWhen (S.eShr (S.eL 0) 31) [S.sAs 2 (S.eSub (S.eC 0) (S.eL 2))],S.sWhen (S.eNot (S.eL 1)) [S.sVal (S.eAnd (S.eL 2) (S.eC 65535))],S.sWhen (S.eQ (S.eL 1) (S.eC 1)) [S.sVal (S.eShr (S.eL 2) 16)]]
  [S.sWhen (S.eLt (S.eL 1) (S.eF S.kNLen [S.eL 0])) [S.sVal (S.eShr (S.eM (S.eAdd (S.eAdr (S.eL 0)) (S.eL 1)) 2) 2)]],S.sVal (S.eC 0)] [f,a,d] o 8 Q _
 have z1:∀d,S.Yl I 16 lk [f,a,d] o (S.eNot (S.eL 1)) (if a=0 then 1 else 0) 6:=λ d=>Zgt (r d) (Zp 0)
 rcases h.cases with⟨K,q2,J⟩|⟨p,e,M,m0,m1,m2⟩
 .refine Zz5 (hf.to_ (if_pos K) (Yb _)) (by decide) (λ h=>by cases h) λ _=>?_
  have O:=Zwt h.vb;obtain⟨r1,r2⟩:=Z3e h.vb K;refine Zq (Zo (op:=12) (by decide) (j d) (Zp 2)) (by decide) ?_;rw[Z8x]
  show S.WS I 16 lk false _ [f,a,u32m (sgn f/4)] o _ _ _
  have rest:∀(C:Nat)(Q:List Int->S.Vw->Nat->Prop),C<=100->S.WS I 16 lk false [S.sWhen (S.eNot (S.eL 1)) [S.sVal (S.eAnd (S.eL 2) (S.eC 65535))],S.sWhen (S.eQ (S.eL 1) (S.eC 1)) [S.sVal (S.eShr (S.eL 2) 16)]] [f,a,S.fixM f] o C
   (λ en X c=>S.wpSs I 16 lk false [S.sVal (S.eC 0)] en X (c+3) Q (S.RetN st (s.getD a.toNat 0) 250)) (S.RetN st (s.getD a.toNat 0) 250):=λ C Q hC=>by
   refine Zr (z1 _) (by decide) (λ t=>?_) (λ l=>?_)
   .have hne:a≠0:=λ q=>by rw[if_pos q] at t;cases t
    refine Zr (Zgt (r _) (Zp 1)) (by decide) (λ B=>Zbi 3 ?_) (λ D=>?_)
    .have hne1:a≠1:=λ q=>by rw[if_pos (by rw[q];rfl)] at B;cases B
     refine Zb7 ((Zp 0).to_ ?_ (Yb _)) (by decide) g (by omega);rw[J,Ye,List.getElem?_eq_none (by simp only[Yj,List.length_nil];omega)];rfl
    .have he1:a=1:=Y_c λ q=>D (if_neg (λ h=>q (h.trans rfl)))
     refine Zb7 ((Zo (op:=11) (by decide) (z _) (Zp 16)).to_ ?_ (Yb _)) (by decide) g (by omega);rw[Zkj,he1,J];rfl
   .have he0:a=0:=Y_c λ q=>l (if_neg q)
    refine Zb7 ((Zo (op:=7) (by decide) (z _) (Zp 65535)).to_ ?_ (Yb _)) (by decide) g (by omega);rw[Zoq O.1 (by omega),he0,J];rfl
  refine Zr (Zo (op:=11) (by decide) (j _) (Zp 31)) (by decide) (λ t=>?_) (λ l=>?_)
  .rw[r1 t]
   exact rest _ Q (by decide)
  .refine Zq (Zo (op:=2) (by decide) (Zp 0) (z _)) (by decide) (Zbi 3 ?_)
   rw[Zkc]
   show S.WS I 16 lk false _ [f,a,u32m (0-u32m (sgn f/4))] o _ _ _
   rw[r2 l];exact rest _ Q (by decide)
 .refine Zz5 (hf.to_ (if_neg (by rw[e];exact Zdw)) (Yb _)) (by decide) (λ _=>?_) λ h=>absurd rfl h
  have N:=h.few;have y:=Zo (op:=14) (by decide) (r d) (Zct (Za (j d) Zf) (by simp) (Za9 hN V) (by decide));rw[Zcj] at y;refine Zr y (by decide) (λ t=>Zro ?_) (λ l=>?_)
  .have hge:¬a<(s.length:Int):=λ q=>by rw[if_pos q] at t;cases t
   have E:s.getD a.toNat 0=0:=by
    rw[Ye,List.getElem?_eq_none (by omega)];rfl
   rw[E];exact Zb7 (Zp 0) (by decide) g (by decide)
  .have hlt:a<(s.length:Int):=Y_c λ q=>l (if_neg q)
   have u:=M (a.toNat+2) (by omega);have T:=hN.ok.size2;rw[show p+((a.toNat+2:Nat):Int)=p+a+2 by omega] at u;have G:=M 0 (by omega);have Z:=G.1;have a0:=u.2.1;have Y:=(Zo (op:=1) (by decide) (Zrp ((j d).to_ e (Yb _))) (r d)).to_ (y:=p+a) (by rw[Zar];unfold u32m;omega) (Yb _);have L:=Zmn (n:=2) (p:=p+a+2) Y (by unfold u32m;omega) (Za7 u);have A:=m2 a.toNat (by omega);rw[show p+2+((a.toNat:Nat):Int)=p+a+2 by omega] at A;rw[hm,A] at L;have U:=(Zo (op:=11) (by decide) L (Zp 2)).to_ (y:=s.getD a.toNat 0) (by rw[Z4m];omega) (Yb _);exact Zb7 U (by decide) g (by decide)
end
end
section
namespace S
def dval:List Int->Int
 | []=>0
 | d::r=>d+65536*dval r
def Digs (l:List Int):Prop:=∀d∈l,0<=d/\d<65536
def cmpV (x y:List Int):Int:=if dval x<dval y then 0 else if dval y<dval x then 2 else 1
end S
theorem Zor {d:Int}{r:List Int}(h:S.Digs (d::r)):(0<=d/\d<65536)/\S.Digs r:=⟨h d Yv,λ x a=>h x (Yy _ a)⟩
theorem Zy {l:List Int}(h:S.Digs l)(j:Nat):0<=l.getD j 0/\l.getD j 0<65536:=by
 rw[Ye]
 cases hq:l[j]? with
 | none=>exact⟨by decide,by decide⟩
 | some x=>exact h x (List.mem_of_getElem? hq)
theorem Zg:∀{l:List Int},S.Digs l->0<=S.dval l
 | [],_=>Int.le_refl _
 | d::r,h=>by
  obtain⟨h1,h2⟩:=Zor h;have:=Zg h2;rw[S.dval];omega
theorem Zen:∀{l:List Int},(∀j:Nat,l.getD j 0=0)->S.dval l=0
 | [],_=>rfl
 | d::r,h=>by
  have h0:d=0:=h 0;have:=Zen (l:=r) λ j=>h (j+1)
  rw[S.dval,this,h0];rfl
theorem Zib:∀{x y:List Int},(∀j:Nat,x.getD j 0=y.getD j 0)->S.dval x=S.dval y
 | [],y,h=>(Zen λ j=>(h j).symm).symm
 | d::r,[],h=>Zen h
 | d::r,e::s,h=>by
  have h0:d=e:=h 0;have:=Zib (x:=r) (y:=s) λ j=>h (j+1)
  rw[S.dval,S.dval,this,h0]
theorem Za2 (x:List Int):S.dval x=x.getD 0 0+65536*S.dval x.tail:=by
 cases x with
 | nil=>rfl
 | cons d r=>rfl
theorem Zaw (x:List Int)(j:Nat):x.tail.getD j 0=x.getD (j+1) 0:=by
 cases x with
 | nil=>rfl
 | cons d r=>rfl
theorem Zb4 {x:List Int}(h:S.Digs x):S.Digs x.tail:=λ d a=>h d (List.mem_of_mem_tail a)
theorem Zqn:∀(k:Nat) {x y:List Int},S.Digs x->S.Digs y->(∀j:Nat,k<j->x.getD j 0=y.getD j 0)->x.getD k 0<y.getD k 0->S.dval x<S.dval y
 | 0,x,y,hx,hy,h,hlt=>by
  have:=Zib (x:=x.tail) (y:=y.tail) λ j=>by rw[Zaw,Zaw];exact h (j+1) (by omega)
  rw[Za2 x,Za2 y,this];omega
 | k+1,x,y,hx,hy,h,hlt=>by
  have:=Zqn k (Zb4 hx) (Zb4 hy) (λ j hj=>by rw[Zaw,Zaw];exact h (j+1) (by omega)) (by rw[Zaw,Zaw];exact hlt);have b1:=Zy hx 0;have b2:=Zy hy 0;rw[Za2 x,Za2 y];omega
theorem Z3f {env:List Int}(h:(env.length:Int)=5):∃a b c d e,env=[a,b,c,d,e]:=by
 match env,h with
 | [a,b,c,d,e],_=>exact⟨a,b,c,d,e,rfl⟩
 | [],h=>simp at h
 | [_],h=>simp at h
 | [_,_],h=>simp at h
 | [_,_,_],h=>simp at h
 | [_,_,_,_],h=>simp at h
 | _::_::_::_::_::_::_,h=>simp only[Yj] at h;omega
section
variable {I:S.Img}(hN:S.NSegs I)
include hN
theorem Zgd {st:S.Vw}{v u O U:Int}{x y:List Int}(N:S.NumAt I st.mem v O x)(M:S.NumAt I st.mem u U y):S.Tells I S.kNCmp st [v,u] 54 (S.cmpV x y) (400+1000*(x.length+y.length)):=by
 obtain⟨iD,X⟩:=hN.cmp;refine Zdv hN.ok S.rNCmp (by kernel_rfl) X (dep:=34) (by decide) rfl rfl λ lk env f Y hp g Q=>?_
 obtain⟨d,e,W,L,K,rfl⟩:=Z3f Y;have h0:d=v:=hp 0 (show 0<2 by decide);have h1:e=u:=hp 1 (show 1<2 by decide);subst h0 h1;have hm:f.mem=st.mem:=g.mem;have B:S.NumAt I f.mem d O x:=by rw[hm];exact N
 have D:S.NumAt I f.mem e U y:=by rw[hm];exact M
 have fx:=N.few;have fy:=M.few;have T:S.Digs x:=N.dig;have V:S.Digs y:=M.dig;have o:∀a b c,S.Yl I 34 lk [d,e,a,b,c] f (S.eL 0) d 1:=λ a b c=>Zs 0
 have t:∀a b c,S.Yl I 34 lk [d,e,a,b,c] f (S.eL 1) e 1:=λ a b c=>Zs 1
 have l:∀a b c,S.Yl I 34 lk [d,e,a,b,c] f (S.eL 2) a 1:=λ a b c=>Zs 2
 have z:∀a b c,S.Yl I 34 lk [d,e,a,b,c] f (S.eL 3) b 1:=λ a b c=>Zs 3
 have J:∀a b c,S.Yl I 34 lk [d,e,a,b,c] f (S.eL 4) c 1:=λ a b c=>Zs 4
 show S.WS I 34 lk false [S.sAs 2 (S.eAdd (S.eF S.kNLen [S.eL 0]) (S.eF S.kNLen [S.eL 1])),
  S.sWh (S.eL 2) [S.sAs 2 (S.eSub (S.eL 2) (S.eC 1)),S.sAs 3 (S.eF S.kNDig [S.eL 0,S.eL 2]),S.sAs 4 (S.eF S.kNDig [S.eL 1,S.eL 2]),S.sWhen (S.eLt (S.eL 3) (S.eL 4)) [S.sVal (S.eC 0)],S.sWhen (S.eLt (S.eL 4) (S.eL 3)) [S.sVal (S.eC 2)]],
  S.sVal (S.eC 1)] [d,e,W,L,K] f 8 Q _
 refine Zq ((Zo (op:=1) (by decide) (Zct (Za (o _ _ _) Zf) (by simp) (Za9 hN B) (by decide)) (Zct (Za (t _ _ _) Zf) (by simp) (Za9 hN D) (by decide))).to_ (y:=((x.length+y.length:Nat):Int)) (by rw[Zar];unfold u32m;omega) (Yb _)) (by decide) ?_
 show S.WS I 34 lk false _ [d,e,((x.length+y.length:Nat):Int),L,K] f _ _ _
 refine Zfp (by decide) (λ env s C k=>s=f/\∃a b,env=[d,e,(k:Int),a,b]/\k<=x.length+y.length/\C<=300+1000*(x.length+y.length-k)/\∀j:Nat,k<=j->x.getD j 0=y.getD j 0) (k0:=x.length+y.length)
  ⟨rfl,L,K,rfl,Yb _,by omega,λ j E=>by rw[Ye,List.getElem?_eq_none (by omega),Ye,List.getElem?_eq_none (by omega)]⟩ ?_
 rintro env s C k ⟨rfl,a,b,rfl,hk,hC,E⟩;refine⟨(k:Int),1,Zs 2,λ n=>?_,λ h=>?_⟩
 .have hk0:k=0:=by omega
  subst hk0;have he:=Zib (x:=x) (y:=y) λ j=>E j (Nat.zero_le j)
  refine Zb7 ((Zp 1).to_ ?_ (Yb _)) (by decide) g (by omega);unfold S.cmpV;rw[if_neg (by omega),if_neg (by omega)];rfl
 .obtain⟨i,rfl⟩:∃i,k=i+1:=⟨k-1,by omega⟩
  refine Zq ((Zo (op:=2) (by decide) (l _ _ _) (Zp 1)).to_ (y:=(i:Int)) (by rw[Zkc];unfold u32m;omega) (Yb _)) (by decide) ?_
  show S.WS I 34 lk false _ [d,e,(i:Int),a,b] s _ _ _
  refine Zq (Zct (Za (o _ _ _) (Za (l _ _ _) Zf)) (by simp) (Zba hN B ⟨by omega,by omega⟩) (by decide)) (by decide) ?_;rw[Int.toNat_natCast]
  show S.WS I 34 lk false _ [d,e,(i:Int),x.getD i 0,b] s _ _ _
  refine Zq (Zct (Za (t _ _ _) (Za (l _ _ _) Zf)) (by simp) (Zba hN D ⟨by omega,by omega⟩) (by decide)) (by decide) ?_;rw[Int.toNat_natCast]
  show S.WS I 34 lk false _ [d,e,(i:Int),x.getD i 0,y.getD i 0] s _ _ _
  have A:=Zo (op:=14) (by decide) (z (i:Int) (x.getD i 0) (y.getD i 0)) (J _ _ _);have G:=Zo (op:=14) (by decide) (J (i:Int) (x.getD i 0) (y.getD i 0)) (z _ _ _);rw[Zcj] at A G;refine Zr A (by decide) (λ n=>?_) (λ h=>?_)
  .have n1:¬x.getD i 0<y.getD i 0:=λ q=>by rw[if_pos q] at n;cases n
   refine Zr G (by decide) (λ n=>Z2 (k2:=i) (by omega) ?_) (λ h=>?_)
   .have n2:¬y.getD i 0<x.getD i 0:=λ q=>by rw[if_pos q] at n;cases n
    refine⟨rfl,_,_,rfl,by omega,by omega,λ j r=>?_⟩;by_cases c:j=i
    .subst c;omega
    .exact E j (by omega)
   .have hlt:y.getD i 0<x.getD i 0:=Y_c λ q=>h (if_neg q)
    have:=Zqn i V T (λ j r=>(E j (by omega)).symm) hlt;refine Zb7 ((Zp 2).to_ ?_ (Yb _)) (by decide) g (by omega);unfold S.cmpV;rw[if_neg (by omega),if_pos this];rfl
  .have hlt:x.getD i 0<y.getD i 0:=Y_c λ q=>h (if_neg q)
   have:=Zqn i T V (λ j r=>E j (by omega)) hlt;refine Zb7 ((Zp 0).to_ ?_ (Yb _)) (by decide) g (by omega);unfold S.cmpV;rw[if_pos this];rfl
end
end
