/- Parts. -/
import Derived.Test.YtdeepoikgfaecaaGreatDoorZGBeg
import Derived.BigQuiet
import Derived.Deep.QuietTactic
import Derived.Deep.DeepCutAuto
set_option linter.all false
set_option maxHeartbeats 2000000
open Go.Lib renaming hid->Ya
open List renaming length_append->Yc,getElem?_eq_getElem->Yd,getElem?_eq_some_iff->Ye,length_cons->Yl,append_assoc->Ym,getElem?_append_left->Yn,getElem?_append_right->Yo,mem_of_getElem?->Yr,length_map->Ys,mem_cons->Yu,cons_append->Yv,getElem?_map->Y0,not_mem_nil->Y3,mem_append->Y8,nil_append->Yad,take_length->Yag,getElem?_cons_zero->Yax,all_eq_true->Yaz,mem_map->Ya1,getElem?_cons_succ->Ya2,any_eq_true->Ybf,map_cons->Ybr
open Nat renaming le_refl->Yf,lt_of_lt_of_le->Yt,zero_add->Yae,add_sub_cancel_left->Yak,add_zero->Ybj
open Bool renaming and_eq_true->Yp,not_eq_true->Yb5
namespace Go.Proofs.YtdeepoikgfaecaaGreatDoor
set_option maxRecDepth 100000
section
open Go.RowKit
namespace S
def bSp (n:Int):Item:=⟨8,⟨0,0,0,0,0⟩,bNo,n⟩
def bHalt:Item:=bI 36 0 0 0 0
def hItems (gw sw:List Int):List Item:=bSp 1312::(gw.map bW++(bL kStatic::(sw.map bW++[bL kCode,bL kStub,bHalt,bL kMapped,bW 0,bHalt])))
def tItems:List Item:=[bL kMore,bSp 8,bL kEnd]
def oHead (gw sw:List Int):Obj:=⟨kHead,hItems gw sw⟩
def oTail:Obj:=⟨kTail,tItems⟩
def mid:List Item:=joined (objs26++[oMain])
def wObjs (gw sw:List Int):List Obj:=oHead gw sw::(objs26++[oMain])++[oTail]
def nodupB:List ByteArray->Bool
 | []=>true
 | x::r=>!(r.any fun y=>decide (x=y)) && nodupB r
def subB (a b:List ByteArray):Bool:=a.all fun s=>b.any fun t=>decide (s=t)
def hTells:List ByteArray:=[kStatic,kCode,kStub,kMapped]
def Zzk:List ByteArray:=[kMore,kEnd]
def wTells:List ByteArray:=hTells++tells mid++Zzk
def midB:Bool:=nodupB wTells && subB (names mid) wTells && mid.all (fun x=>decide (chkItem x=0)) && mid.all (fun x=>decide (0<=x.word/\x.word<=4294967295)) && decide (bulk mid<=8000)
end S
theorem Zlh:S.midB=true:=by kernel_rfl
theorem Zjx:∀ {l:List ByteArray},S.nodupB l=true->l.Nodup
 | [],_=>List.nodup_nil
 | x::r,h=>by
  rw [S.nodupB,Yp] at h;refine List.nodup_cons.2 ⟨fun hx=>?_,Zjx h.2⟩;have:(r.any fun y=>decide (x=y))=true:=Ybf.2 ⟨x,hx,decide_eq_true rfl⟩;rw [this] at h;exact absurd h.1 (by decide)
theorem Zzl {a b:List ByteArray}(h:S.subB a b=true):∀ s∈a,s∈b:=fun s hs=>by
 obtain ⟨t,ht,he⟩:=Ybf.1 (Yaz.1 h s hs);rw [of_decide_eq_true he];exact ht
theorem Zli:S.wTells.Nodup:=Zjx (by have:=Zlh;unfold S.midB at this;simp only [Yp] at this;exact this.1.1.1.1)
theorem Zr0:∀ s∈S.names S.mid,s∈S.wTells:=Zzl (by have:=Zlh;unfold S.midB at this;simp only [Yp] at this;exact this.1.1.1.2)
theorem Zx2:S.allChk S.mid:=fun x hx=>by
 have:=Zlh;unfold S.midB at this;simp only [Yp] at this;exact of_decide_eq_true (Yaz.1 this.1.1.2 x hx)
theorem Zr1:∀ x∈S.mid,0<=x.word/\x.word<=4294967295:=fun x hx=>by
 have:=Zlh;unfold S.midB at this;simp only [Yp] at this;exact of_decide_eq_true (Yaz.1 this.1.2 x hx)
theorem Zu9:S.bulk S.mid<=8000:=by
 have:=Zlh;unfold S.midB at this;simp only [Yp] at this;exact of_decide_eq_true this.2
theorem Ze5 (a b:List S.Obj):S.joined (a++b)=S.joined a++S.joined b:=List.flatMap_append
theorem Zch (gw sw:List Int):S.joined (S.wObjs gw sw)=S.hItems gw sw++(S.mid++S.tItems):=by
 have hh:S.joined [S.oHead gw sw]=S.hItems gw sw:=by
  have e:S.joined [S.oHead gw sw]=(S.hItems gw sw).map (S.ownItem S.kHead):=by simp [S.joined,S.itemsOf,S.oHead]
  rw [e];have:∀ x∈S.hItems gw sw,S.ownItem S.kHead x=x:=by
   intro x hx;unfold S.hItems at hx;simp only [Yu,Y8,Ya1,Y3,or_false] at hx;rcases hx with rfl | ⟨w,_,rfl⟩ | rfl | ⟨w,_,rfl⟩ | rfl | rfl | rfl | rfl | rfl | rfl <;> rfl
  exact (List.map_congr_left this).trans (List.map_id _)
 have ht:S.joined [S.oTail]=S.tItems:=rfl;have e:S.wObjs gw sw=[S.oHead gw sw]++((S.objs26++[S.oMain])++[S.oTail]):=by simp [S.wObjs]
 rw [e,Ze5,Ze5,hh,ht];rfl
theorem Zoy (l:List Int):S.tells (l.map S.bW)=[]/\S.names (l.map S.bW)=[]/\S.bulk (l.map S.bW)=4*l.length/\S.allChk (l.map S.bW):=by
 induction l with
 | nil=>exact ⟨rfl,rfl,rfl,Zjb⟩
 | cons x r ih =>
  obtain ⟨h1,h2,h3,h4⟩:=ih;refine ⟨?_,?_,?_,Z8 (by simp [S.chkItem,S.bW]) h4⟩
  ·rw [Ybr,S.tells,if_neg (show ¬ (S.bW x).kind=2 from (by decide:¬ (6:Int)=2)),h1]
  ·rw [Ybr,S.names,if_neg (show ¬ S.named (S.bW x)=true from by simp [S.named,S.bW]),h2]
  ·rw [Ybr,S.bulk,if_neg (show ¬ (S.bW x).kind=8 from (by decide:¬ (6:Int)=8)),h3,Yl];omega
theorem Zf6 (gw sw:List Int):S.tells (S.hItems gw sw)=S.hTells/\S.names (S.hItems gw sw)=[]/\S.bulk (S.hItems gw sw)=1312+4*gw.length+4*sw.length+28/\S.allChk (S.hItems gw sw):=by
 obtain ⟨g1,g2,g3,g4⟩:=Zoy gw;obtain ⟨s1,s2,s3,s4⟩:=Zoy sw;unfold S.hItems;refine ⟨?_,?_,?_,?_⟩
 ·rw [S.tells,if_neg (by decide),Za3,g1,Yad,S.tells,if_pos (by decide),Za3,s1,Yad]
  rfl
 ·rw [S.names,if_neg (by decide),Zcl,g2,Yad,S.names,if_neg (by decide),Zcl,s2,Yad]
  rfl
 ·rw [S.bulk,if_pos (by decide),Zb6,g3,S.bulk,if_neg (by decide),Zb6,s3]
  have:S.bulk [S.bL S.kCode,S.bL S.kStub,S.bHalt,S.bL S.kMapped,S.bW 0,S.bHalt]=24:=by decide
  rw [this]
  show (1312:Int)+_=_
  omega
 ·have hh:S.chkItem S.bHalt=0:=Z0u (Ztu (.inr rfl) (by decide))
  exact Z8 (by simp [S.chkItem,S.bSp]) (Zbs g4 (Z8 (Zjd _) (Zbs s4 (Z8 (Zjd _) (Z8 (Zjd _) (Z8 hh (Z8 (Zjd _) (Z8 (by simp [S.chkItem,S.bW]) (Zjc hh)))))))))
def S.aa (b:Bool)(gw sw:List Int)(F:List Int)(size:Int):S.Img:=⟨S.joined (S.wObjs gw sw),F,size,if b=true then 2+gw.length+sw.length else gw.length+sw.length+8,gw.length+sw.length+8+S.mid.length,1056,1312⟩
theorem Zbv (gw sw:List Int):(S.hItems gw sw).length=gw.length+sw.length+8:=by
 unfold S.hItems;simp;omega
theorem Zr2 (gw sw:List Int)(hg:∀ x∈gw,0<=x/\x<=4294967295)(hs:∀ x∈sw,0<=x/\x<=4294967295):∀ x∈S.joined (S.wObjs gw sw),0<=x.word/\x.word<=4294967295:=by
 intro x hx;rw [Zch] at hx;rcases Y8.1 hx with h | h
 ·unfold S.hItems at h
  simp only [Yu,Y8,Ya1,Y3,or_false] at h;rcases h with rfl | ⟨w,hw,rfl⟩ | rfl | ⟨w,hw,rfl⟩ | rfl | rfl | rfl | rfl | rfl | rfl
  ·decide
  ·exact hg w hw
  ·decide
  ·exact hs w hw
  all_goals decide
 ·rcases Y8.1 h with h | h
  ·exact Zr1 x h
  ·unfold S.tItems at h
   simp only [Yu,Y3,or_false] at h;rcases h with rfl | rfl | rfl <;> decide
theorem Z19 {gw sw:List Int}{e:Int}{F:List Int}{size:Int}(h:S.FormsRes (S.joined (S.wObjs gw sw)) 0 e F)(hg:∀ x∈gw,0<=x/\x<=4294967295)(hs:∀ x∈sw,0<=x/\x<=4294967295)(hgl:gw.length<=100)(hsl:sw.length<=100)
 (hsz:e=0->S.addr (S.joined (S.wObjs gw sw)) F 0 (S.joined (S.wObjs gw sw)).length<size) (hsz2:size<=335544320):e=0/\(∀ b,(S.aa b gw sw F size).Ok)/\S.addr (S.joined (S.wObjs gw sw)) F 0 (S.joined (S.wObjs gw sw)).length<=12000:=by
 obtain ⟨h1,h2,h3,h4⟩:=Zf6 gw sw;have hx:=Zch gw sw;have hw:=Zr2 gw sw hg hs;have k1:S.tells (S.joined (S.wObjs gw sw))=S.wTells:=by
  rw [hx,Za3,Za3,h1,<- Ym];rfl
 have k2:S.names (S.joined (S.wObjs gw sw))=S.names S.mid:=by
  rw [hx,Zcl,Zcl,h2,Yad];have:S.names S.tItems=[]:=by decide
  rw [this,List.append_nil]
 have k3:S.allChk (S.joined (S.wObjs gw sw)):=by
  rw [hx];exact Zbs h4 (Zbs Zx2 (Z8 (Zjd _) (Z8 (by simp [S.chkItem,S.bSp]) (Zjc (Zjd _)))))
 have k4:S.bulk (S.joined (S.wObjs gw sw))<=12000:=by
  rw [hx,Zb6,Zb6,h3];have:S.bulk S.tItems=16:=by decide
  have:=Zu9;omega
 obtain ⟨e0,hF,ha⟩:=Z0t h k3 (by rw [k1];exact Zli) (by rw [k2,k1];exact Zr0) (by omega);subst e0;have hlen:=Zbv gw sw;have hxl:(S.joined (S.wObjs gw sw)).length=gw.length+sw.length+8+S.mid.length+3:=by
  rw [hx,Yc,Yc,hlen,show S.tItems.length=3 from rfl];omega
 have hsz':=hsz rfl;have ha0:1312<=S.addr (S.joined (S.wObjs gw sw)) F 0 (2+gw.length+sw.length):=by
  refine Int.le_trans ?_ (Zcq hF hw (i:=1) (by omega));have hx0:(S.joined (S.wObjs gw sw))[0]?=some (S.bSp 1312):=by rw [hx];rfl
  have:S.addr (S.joined (S.wObjs gw sw)) F 0 1=0+S.sizeAt (S.joined (S.wObjs gw sw)) F 0:=rfl;rw [this];have hsz:S.sizeAt (S.joined (S.wObjs gw sw)) F 0=1312:=by
   unfold S.sizeAt;rw [hx0]
   show S.size (S.bSp 1312) (F.getD 0 0)=1312
   unfold S.size S.bSp;simp
  rw [hsz]
  decide
 have hatop:=Zcq hF hw (base:=0) (i:=2+gw.length+sw.length) (n:=(S.joined (S.wObjs gw sw)).length) (by omega);refine ⟨rfl,fun b=>⟨h,hw,by show (if b=true then 2+gw.length+sw.length else gw.length+sw.length+8)<=gw.length+sw.length+8+S.mid.length;split <;> omega,by show gw.length+sw.length+8+S.mid.length<=(S.joined (S.wObjs gw sw)).length;omega,hsz',hsz2,by show (0:Int)<=1056;decide,by show (1056:Int)<=1312;decide,by show (1312:Int)<=size;omega,.inl ?_⟩,by omega⟩
 show 1312<=S.addr (S.joined (S.wObjs gw sw)) F 0 (if b=true then 2+gw.length+sw.length else gw.length+sw.length+8)
 split
 ·exact ha0
 ·exact Int.le_trans ha0 (Zcq hF hw (by omega))
end
section
open Go.RowKit
theorem Zlj:∀ {os:List S.Obj} {j:Nat} {o:S.Obj},os[j]?=some o->∃ A B,S.joined os=A++(o.items.map (S.ownItem o.name)++B)
 | [],j,o,h=>by cases h
 | x::r,0,o,h=>by
  cases h
  exact ⟨[],S.joined r,rfl⟩
 | x::r,j+1,o,h=>by
  obtain ⟨A,B,e⟩:=Zlj (os:=r) (j:=j) h;refine ⟨S.itemsOf x++A,B,?_⟩
  show S.itemsOf x++S.joined r=_
  rw [e,Ym]
section
variable {gw sw:List Int}{F:List Int}{size:Int}{b:Bool}
theorem Znj {j:Nat}{o:S.Obj}(hj:(S.objs26++[S.oMain])[j]?=some o):∃ i,S.Seg (S.aa b gw sw F size) o.name i o.items:=by
 obtain ⟨A,B,e⟩:=Zlj hj;have hx:=Zch gw sw;have hl:=Zbv gw sw;have hm:S.mid=A++(o.items.map (S.ownItem o.name)++B):=e;refine ⟨gw.length+sw.length+8+A.length,fun k x hk=>?_,?_,?_⟩
 ·show (S.joined (S.wObjs gw sw))[_]?=_
  rw [hx,Yo (by omega),hl,hm];have hlt:=(Ye.1 hk).1;rw [Yn (by simp only [Yc,Ys];omega),Yo (by omega),Yn (by rw [Ys];omega)];rw [show gw.length+sw.length+8+A.length+k-(gw.length+sw.length+8)-A.length=k from by omega,Y0,hk];rfl
 ·show (if b=true then 2+gw.length+sw.length else gw.length+sw.length+8)<=_
  split <;> omega
 ·show _<=gw.length+sw.length+8+S.mid.length
  rw [hm];simp only [Yc,Ys];omega
theorem Znk {j:Nat}{r:S.BR}(hj:(S.objs26++[S.oMain])[j]?=some (S.ofR r)):∃ i,S.Seg (S.aa b gw sw F size) r.name i (S.bItems r):=Znj hj
theorem Zaz {i:Nat}{x:S.Item}(h:(S.hItems gw sw)[i]?=some x):(S.aa b gw sw F size).xs[i]?=some x:=by
 show (S.joined (S.wObjs gw sw))[i]?=_
 rw [Zch,Yn (Ye.1 h).1];exact h
theorem Znl {i:Nat}{x:S.Item}(h:S.tItems[i]?=some x):(S.aa b gw sw F size).xs[gw.length+sw.length+8+S.mid.length+i]?=some x:=by
 show (S.joined (S.wObjs gw sw))[_]?=_
 have hl:=Zbv gw sw;rw [Zch,Yo (by omega),hl,Yo (by omega)];rw [show gw.length+sw.length+8+S.mid.length+i-(gw.length+sw.length+8)-S.mid.length=i from by omega];exact h
theorem Zw4 {k:Nat}(hk:k<gw.length):(S.hItems gw sw)[1+k]?=some (S.bW gw[k]):=by
 unfold S.hItems;rw [Nat.add_comm,Ya2,Yn (by rw [Ys];exact hk),Y0,Yd hk];rfl
theorem Zoz {k:Nat}:(S.hItems gw sw)[1+gw.length+k]?=(S.bL S.kStatic::(sw.map S.bW++[S.bL S.kCode,S.bL S.kStub,S.bHalt,S.bL S.kMapped,S.bW 0,S.bHalt]))[k]?:=by
 unfold S.hItems;rw [show 1+gw.length+k=(gw.length+k)+1 from by omega,Ya2,Yo (by rw [Ys];omega),Ys,Yak]
theorem Zw5 {k:Nat}(hk:k<sw.length):(S.hItems gw sw)[2+gw.length+k]?=some (S.bW sw[k]):=by
 rw [show 2+gw.length+k=1+gw.length+(k+1) from by omega,Zoz,Ya2,Yn (by rw [Ys];exact hk),Y0,Yd hk];rfl
theorem Znm {k:Nat}:(S.hItems gw sw)[2+gw.length+sw.length+k]?=[S.bL S.kCode,S.bL S.kStub,S.bHalt,S.bL S.kMapped,S.bW 0,S.bHalt][k]?:=by
 rw [show 2+gw.length+sw.length+k=1+gw.length+((sw.length+k)+1) from by omega,Zoz,Ya2,Yo (by rw [Ys];omega),Ys,Yak]
variable (hI:(S.aa b gw sw F size).Ok)
include hI
theorem Zcp {i:Nat}{x:S.Item}(hx:(S.aa b gw sw F size).xs[i]?=some x)(hk:x.kind=2):(S.aa b gw sw F size).lab x.label=(S.aa b gw sw F size).adr i:=by
 unfold S.Img.lab;rw [Zhc hI hx hk];rfl
theorem Zgl:∀ k:Nat,k<=gw.length->(S.aa b gw sw F size).adr (1+k)=1312+k
 | 0,_=>by
  have:=Z1 hI (i:=0) (x:=S.bSp 1312) (Zaz rfl);rw [this]
  show 0+S.size (S.bSp 1312) _=_
  unfold S.size S.bSp;simp
 | k+1,h=>by
  have ih:=Zgl k (by omega);have:=Z1 hI (i:=1+k) (Zaz (Zw4 (by omega)));rw [show 1+(k+1)=1+k+1 from by omega,this,ih]
  show 1312+(k:Int)+1=_
  omega
theorem Zp8:(S.aa b gw sw F size).adr (2+gw.length)=1312+gw.length:=by
 have h0:=Zgl hI gw.length (Yf _);have:=Z1 hI (i:=1+gw.length) (x:=S.bL S.kStatic) (Zaz (by have:=Zoz (gw:=gw) (sw:=sw) (k:=0);rw [Ybj] at this;rw [this];rfl));rw [show 2+gw.length=1+gw.length+1 from by omega,this,h0]
 show 1312+(gw.length:Int)+0=_
 omega
theorem Zgm:∀ k:Nat,k<=sw.length->(S.aa b gw sw F size).adr (2+gw.length+k)=1312+gw.length+k
 | 0,_=>by rw [Ybj,Zp8 hI];omega
 | k+1,h=>by
  have ih:=Zgm k (by omega);have:=Z1 hI (i:=2+gw.length+k) (Zaz (Zw5 (by omega)));rw [show 2+gw.length+(k+1)=2+gw.length+k+1 from by omega,this,ih]
  show 1312+(gw.length:Int)+k+1=_
  omega
theorem Zv:(S.aa b gw sw F size).lab S.kStatic=1312+gw.length/\(S.aa b gw sw F size).lab S.kCode=1312+gw.length+sw.length/\(S.aa b gw sw F size).lab S.kStub=1312+gw.length+sw.length/\(S.aa b gw sw F size).lab S.kMapped=1312+gw.length+sw.length+1 /\
 (S.aa b gw sw F size).adr (2+gw.length+sw.length+2)=1312+gw.length+sw.length/\(S.aa b gw sw F size).adr (2+gw.length+sw.length+4)=1312+gw.length+sw.length+1/\(S.aa b gw sw F size).adr (2+gw.length+sw.length+6)=1312+gw.length+sw.length+3:=by
 have a0:=Zgm hI sw.length (Yf _);have x0:(S.aa b gw sw F size).xs[2+gw.length+sw.length]?=some (S.bL S.kCode):=Zaz (Znm (k:=0));have x1:(S.aa b gw sw F size).xs[2+gw.length+sw.length+1]?=some (S.bL S.kStub):=Zaz Znm;have x2:(S.aa b gw sw F size).xs[2+gw.length+sw.length+2]?=some S.bHalt:=Zaz Znm;have x3:(S.aa b gw sw F size).xs[2+gw.length+sw.length+3]?=some (S.bL S.kMapped):=Zaz Znm;have x4:(S.aa b gw sw F size).xs[2+gw.length+sw.length+4]?=some (S.bW 0):=Zaz Znm;have x5:(S.aa b gw sw F size).xs[2+gw.length+sw.length+5]?=some S.bHalt:=Zaz Znm;have xs:(S.aa b gw sw F size).xs[1+gw.length]?=some (S.bL S.kStatic):=Zaz (by have:=Zoz (gw:=gw) (sw:=sw) (k:=0);rw [Ybj] at this;rw [this];rfl);have hs1:=Zgl hI gw.length (Yf _);have l0:=Zcp hI x0 rfl;have l1:=Zcp hI x1 rfl;have l3:=Zcp hI x3 rfl;have ls:=Zcp hI xs rfl;obtain ⟨I,hIe⟩:=Yx (S.aa b gw sw F size);obtain ⟨M,hM⟩:=Yx (2+gw.length+sw.length);rw [<- hIe] at hI a0 x0 x1 x2 x3 x4 x5 hs1 l0 l1 l3 ls ⊢;rw [<- hM] at a0 x0 x1 x2 x3 x4 x5 l0 l1 l3 ⊢;have n0:I.adr (M+1)=I.adr M+0:=Z1 hI x0;have n1:I.adr (M+2)=I.adr (M+1)+0:=Z1 hI x1;have n2:I.adr (M+3)=I.adr (M+2)+1:=Z1 hI x2;have n3:I.adr (M+4)=I.adr (M+3)+0:=Z1 hI x3;have n4:I.adr (M+5)=I.adr (M+4)+1:=Z1 hI x4;have n5:I.adr (M+6)=I.adr (M+5)+1:=Z1 hI x5;have k0:I.lab S.kCode=I.adr M:=l0;have k1:I.lab S.kStub=I.adr (M+1):=l1;have k3:I.lab S.kMapped=I.adr (M+3):=l3;exact ⟨ls.trans hs1,by omega,by omega,by omega,by omega,by omega,by omega⟩
end
attribute [local irreducible] S.mid
section
variable {gw sw:List Int}{F:List Int}{size:Int}{b:Bool}(hI:(S.aa b gw sw F size).Ok)
include hI
theorem Ze6:(S.aa b gw sw F size).lab S.kMore=(S.aa b gw sw F size).adr (S.aa b gw sw F size).i1/\(S.aa b gw sw F size).lab S.kEnd=(S.aa b gw sw F size).lab S.kMore+8/\(S.aa b gw sw F size).adr (S.aa b gw sw F size).xs.length=(S.aa b gw sw F size).lab S.kEnd:=by
 obtain ⟨M,hM⟩:=Yx (S.aa b gw sw F size).i1;have hM2:M=gw.length+sw.length+8+S.mid.length:=hM;have x0:(S.aa b gw sw F size).xs[M]?=some (S.bL S.kMore):=by rw [hM2];exact Znl (i:=0) rfl
 have x1:(S.aa b gw sw F size).xs[M+1]?=some (S.bSp 8):=by rw [hM2];exact Znl (i:=1) rfl
 have x2:(S.aa b gw sw F size).xs[M+2]?=some (S.bL S.kEnd):=by rw [hM2];exact Znl (i:=2) rfl
 have hlen:(S.aa b gw sw F size).xs.length=M+3:=by
  rw [hM2]
  show (S.joined (S.wObjs gw sw)).length=_
  rw [Zch,Yc,Yc,Zbv,show S.tItems.length=3 from rfl];omega
 rw [<- hM,hlen];clear hM hM2 hlen;obtain ⟨I,hIe⟩:=Yx (S.aa b gw sw F size);have l0:=Zcp hI x0 rfl;have l2:=Zcp hI x2 rfl;rw [<- hIe] at hI x0 x1 x2 l0 l2 ⊢;have n0:I.adr (M+1)=I.adr M+0:=Z1 hI x0;have n1:I.adr (M+1+1)=I.adr (M+1)+S.size (S.bSp 8) (I.F.getD (M+1) 0):=Z1 hI x1;have n2:I.adr (M+2+1)=I.adr (M+2)+0:=Z1 hI x2;have e8:S.size (S.bSp 8) (I.F.getD (M+1) 0)=8:=by
  unfold S.size S.bSp;simp
 rw [e8] at n1;have k0:I.lab S.kMore=I.adr M:=l0;have k2:I.lab S.kEnd=I.adr (M+2):=l2;have e2:M+1+1=M+2:=rfl;have e3:M+2+1=M+3:=rfl;rw [e2] at n1;rw [e3] at n2;exact ⟨k0,by omega,by omega⟩
end
end
section
open Go.RowKit
mutual
def ECell (w:World)(B b o:Nat):S.BE->Prop
 | .mk op n name kids=>w.cell? ⟨b,o,none⟩=some (.int .i64 op)/\w.cell? ⟨b,o+1,none⟩=some (.int .i64 n)/\w.cell? ⟨b,o+2,none⟩=some (.string name)/\name.size<=maxLen/\kids.length<=maxLen /\
  ∃ A c,w.cell? ⟨b,o+3,none⟩=some (.slice A kids.length c)/\(kids=[]\/∃ b' off,A=some ⟨b',off,none⟩/\b'<B/\EKids w B b' off kids)
def EKids (w:World)(B b o:Nat):List S.BE->Prop
 | []=>True
 | e::r=>ECell w B b o e/\EKids w B b (o+4) r
end
def EList (w:World)(B:Nat)(A:Option Addr)(l:List S.BE):Prop:=l=[]\/∃ b off,A=some ⟨b,off,none⟩/\b<B/\EKids w B b off l
def Z2a (w:World)(B:Nat)(e:S.BE)(v:Value):Prop :=
 ∃ A c,v=.agg #[.int .i64 e.op,.int .i64 e.n,.string e.name,.slice A e.kids.length c]/\e.name.size<=maxLen/\e.kids.length<=maxLen/\EList w B A e.kids
mutual
theorem ECell.below {w w':World}{B b o:Nat}(hb:Below B w w')(hlt:b<B):∀ {e:S.BE},ECell w B b o e->ECell w' B b o e
 | .mk op n name kids,h=>by
  rw [ECell] at h ⊢;obtain ⟨h1,h2,h3,h4,h5,A,c,h6,h7⟩:=h;refine ⟨(hb.cell (p:=⟨b,_,none⟩) hlt).trans h1,(hb.cell (p:=⟨b,_,none⟩) hlt).trans h2,(hb.cell (p:=⟨b,_,none⟩) hlt).trans h3,h4,h5,A,c,(hb.cell (p:=⟨b,_,none⟩) hlt).trans h6,?_⟩;rcases h7 with h7 | ⟨b',off,h8,h9,h10⟩
  ·exact .inl h7
  ·exact .inr ⟨b',off,h8,h9,EKids.below hb h9 h10⟩
theorem EKids.below {w w':World}{B b o:Nat}(hb:Below B w w')(hlt:b<B):∀ {l:List S.BE},EKids w B b o l->EKids w' B b o l
 | [],_=>by rw [EKids];trivial
 | e::r,h=>by
  rw [EKids] at h ⊢;exact ⟨ECell.below hb hlt h.1,EKids.below hb hlt h.2⟩
end
mutual
theorem ECell.more {w:World}{B B' b o:Nat}(hB:B<=B'):∀ {e:S.BE},ECell w B b o e->ECell w B' b o e
 | .mk op n name kids,h=>by
  rw [ECell] at h ⊢;obtain ⟨h1,h2,h3,h4,h5,A,c,h6,h7⟩:=h;refine ⟨h1,h2,h3,h4,h5,A,c,h6,?_⟩;rcases h7 with h7 | ⟨b',off,h8,h9,h10⟩
  ·exact .inl h7
  ·exact .inr ⟨b',off,h8,Yt h9 hB,EKids.more hB h10⟩
theorem EKids.more {w:World}{B B' b o:Nat}(hB:B<=B'):∀ {l:List S.BE},EKids w B b o l->EKids w B' b o l
 | [],_=>by rw [EKids];trivial
 | e::r,h=>by
  rw [EKids] at h ⊢;exact ⟨ECell.more hB h.1,EKids.more hB h.2⟩
end
theorem EList.below {w w':World}{B:Nat}{A:Option Addr}{l:List S.BE}(h:EList w B A l)(hb:Below B w w'):EList w' B A l:=by
 rcases h with h | ⟨b,off,h1,h2,h3⟩
 ·exact .inl h
 ·exact .inr ⟨b,off,h1,h2,h3.below hb h2⟩
theorem EList.more {w:World}{B B':Nat}{A:Option Addr}{l:List S.BE}(h:EList w B A l)(hB:B<=B'):EList w B' A l:=by
 rcases h with h | ⟨b,off,h1,h2,h3⟩
 ·exact .inl h
 ·exact .inr ⟨b,off,h1,Yt h2 hB,h3.more hB⟩
theorem EKids.at_ {w:World}{B b:Nat}:∀ {l:List S.BE} {o k:Nat} {e:S.BE},EKids w B b o l->l[k]?=some e->ECell w B b (o+k*4) e
 | [],o,k,e,_,h=>by simp at h
 | x::r,o,0,e,hk,h=>by
  rw [EKids] at hk;simp only [Yax,Option.some.injEq] at h;subst h
  simpa using hk.1
 | x::r,o,k+1,e,hk,h=>by
  rw [EKids] at hk;have:=EKids.at_ hk.2 (k:=k) (by simpa using h);have e1:o+4+k*4=o+(k+1)*4:=by omega
  rw [e1] at this;exact this
theorem EList.at_ {w:World}{B:Nat}{A:Option Addr}{l:List S.BE}(h:EList w B A l){k:Nat}{e:S.BE}(hk:l[k]?=some e) :
 ∃ b off A' c',A=some ⟨b,off,none⟩/\b<B/\w.cell? ⟨b,off+k*4,none⟩=some (.int .i64 e.op)/\w.cell? ⟨b,off+k*4+1,none⟩=some (.int .i64 e.n)/\w.cell? ⟨b,off+k*4+2,none⟩=some (.string e.name) /\
  w.cell? ⟨b,off+k*4+3,none⟩=some (.slice A' e.kids.length c')/\e.name.size<=maxLen/\e.kids.length<=maxLen/\EList w B A' e.kids:=by
 rcases h with h | ⟨b,off,h1,h2,h3⟩
 ·subst h;simp at hk
 ·have h4:=h3.at_ hk
  obtain ⟨op,n,name,kids⟩:=e;rw [ECell] at h4;obtain ⟨q1,q2,q3,q4,q5,A',c',q6,q7⟩:=h4;exact ⟨b,off,A',c',h1,h2,q1,q2,q3,q6,q4,q5,q7⟩
mutual
def SCell (w:World)(B b o:Nat):S.BS->Prop
 | .mk op n name exprs regs body els=>w.cell? ⟨b,o,none⟩=some (.int .i64 op)/\w.cell? ⟨b,o+1,none⟩=some (.int .i64 n)/\w.cell? ⟨b,o+2,none⟩=some (.string name)/\name.size<=maxLen/\exprs.length<=maxLen/\regs.length<=maxLen/\body.length<=maxLen/\els.length<=maxLen /\
  (∃ A c,w.cell? ⟨b,o+3,none⟩=some (.slice A exprs.length c)/\EList w B A exprs)/\(∃ A c,w.cell? ⟨b,o+4,none⟩=some (.slice A regs.length c)/\Ints w B A regs) /\
  (∃ A c,w.cell? ⟨b,o+5,none⟩=some (.slice A body.length c)/\(body=[]\/∃ b' off,A=some ⟨b',off,none⟩/\b'<B/\SKids w B b' off body)) /\
  (∃ A c,w.cell? ⟨b,o+6,none⟩=some (.slice A els.length c)/\(els=[]\/∃ b' off,A=some ⟨b',off,none⟩/\b'<B/\SKids w B b' off els))
def SKids (w:World)(B b o:Nat):List S.BS->Prop
 | []=>True
 | s::r=>SCell w B b o s/\SKids w B b (o+7) r
end
def SList (w:World)(B:Nat)(A:Option Addr)(l:List S.BS):Prop:=l=[]\/∃ b off,A=some ⟨b,off,none⟩/\b<B/\SKids w B b off l
mutual
theorem SCell.below {w w':World}{B b o:Nat}(hb:Below B w w')(hlt:b<B):∀ {s:S.BS},SCell w B b o s->SCell w' B b o s
 | .mk op n name exprs regs body els,h=>by
  rw [SCell] at h ⊢;obtain ⟨h1,h2,h3,h4,h5,h6,h7,h8,⟨A1,c1,a1,a2⟩,⟨A2,c2,b1,b2⟩,⟨A3,c3,d1,d2⟩,⟨A4,c4,e1,e2⟩⟩:=h;refine ⟨(hb.cell (p:=⟨b,_,none⟩) hlt).trans h1,(hb.cell (p:=⟨b,_,none⟩) hlt).trans h2,(hb.cell (p:=⟨b,_,none⟩) hlt).trans h3,h4,h5,h6,h7,h8,⟨A1,c1,(hb.cell (p:=⟨b,_,none⟩) hlt).trans a1,a2.below hb⟩,
   ⟨A2,c2,(hb.cell (p:=⟨b,_,none⟩) hlt).trans b1,b2.below hb⟩,⟨A3,c3,(hb.cell (p:=⟨b,_,none⟩) hlt).trans d1,?_⟩,⟨A4,c4,(hb.cell (p:=⟨b,_,none⟩) hlt).trans e1,?_⟩⟩
  ·rcases d2 with d2 | ⟨b',off,q1,q2,q3⟩
   ·exact .inl d2
   ·exact .inr ⟨b',off,q1,q2,SKids.below hb q2 q3⟩
  ·rcases e2 with e2 | ⟨b',off,q1,q2,q3⟩
   ·exact .inl e2
   ·exact .inr ⟨b',off,q1,q2,SKids.below hb q2 q3⟩
theorem SKids.below {w w':World}{B b o:Nat}(hb:Below B w w')(hlt:b<B):∀ {l:List S.BS},SKids w B b o l->SKids w' B b o l
 | [],_=>by rw [SKids];trivial
 | e::r,h=>by
  rw [SKids] at h ⊢;exact ⟨SCell.below hb hlt h.1,SKids.below hb hlt h.2⟩
end
mutual
theorem SCell.more {w:World}{B B' b o:Nat}(hB:B<=B'):∀ {s:S.BS},SCell w B b o s->SCell w B' b o s
 | .mk op n name exprs regs body els,h=>by
  rw [SCell] at h ⊢;obtain ⟨h1,h2,h3,h4,h5,h6,h7,h8,⟨A1,c1,a1,a2⟩,⟨A2,c2,b1,b2⟩,⟨A3,c3,d1,d2⟩,⟨A4,c4,e1,e2⟩⟩:=h;refine ⟨h1,h2,h3,h4,h5,h6,h7,h8,⟨A1,c1,a1,a2.more hB⟩,⟨A2,c2,b1,b2.more hB⟩,⟨A3,c3,d1,?_⟩,⟨A4,c4,e1,?_⟩⟩
  ·rcases d2 with d2 | ⟨b',off,q1,q2,q3⟩
   ·exact .inl d2
   ·exact .inr ⟨b',off,q1,Yt q2 hB,SKids.more hB q3⟩
  ·rcases e2 with e2 | ⟨b',off,q1,q2,q3⟩
   ·exact .inl e2
   ·exact .inr ⟨b',off,q1,Yt q2 hB,SKids.more hB q3⟩
theorem SKids.more {w:World}{B B' b o:Nat}(hB:B<=B'):∀ {l:List S.BS},SKids w B b o l->SKids w B' b o l
 | [],_=>by rw [SKids];trivial
 | e::r,h=>by
  rw [SKids] at h ⊢;exact ⟨SCell.more hB h.1,SKids.more hB h.2⟩
end
theorem SList.below {w w':World}{B:Nat}{A:Option Addr}{l:List S.BS}(h:SList w B A l)(hb:Below B w w'):SList w' B A l:=by
 rcases h with h | ⟨b,off,h1,h2,h3⟩
 ·exact .inl h
 ·exact .inr ⟨b,off,h1,h2,h3.below hb h2⟩
theorem SList.more {w:World}{B B':Nat}{A:Option Addr}{l:List S.BS}(h:SList w B A l)(hB:B<=B'):SList w B' A l:=by
 rcases h with h | ⟨b,off,h1,h2,h3⟩
 ·exact .inl h
 ·exact .inr ⟨b,off,h1,Yt h2 hB,h3.more hB⟩
theorem SKids.at_ {w:World}{B b:Nat}:∀ {l:List S.BS} {o k:Nat} {s:S.BS},SKids w B b o l->l[k]?=some s->SCell w B b (o+k*7) s
 | [],o,k,e,_,h=>by simp at h
 | x::r,o,0,e,hk,h=>by
  rw [SKids] at hk;simp only [Yax,Option.some.injEq] at h;subst h
  simpa using hk.1
 | x::r,o,k+1,e,hk,h=>by
  rw [SKids] at hk;have:=SKids.at_ hk.2 (k:=k) (by simpa using h);have e1:o+7+k*7=o+(k+1)*7:=by omega
  rw [e1] at this;exact this
structure SPart (w:World)(B:Nat)(s:S.BS)(A1 A2 A3 A4:Option Addr):Prop where
 name:s.name.size<=maxLen
 l1:s.exprs.length<=maxLen
 l2:s.regs.length<=maxLen
 l3:s.body.length<=maxLen
 l4:s.els.length<=maxLen
 exprs:EList w B A1 s.exprs
 regs:Ints w B A2 s.regs
 body:SList w B A3 s.body
 els:SList w B A4 s.els
theorem SPart.below {w w':World}{B:Nat}{s:S.BS}{A1 A2 A3 A4:Option Addr}(h:SPart w B s A1 A2 A3 A4)(hb:Below B w w'):SPart w' B s A1 A2 A3 A4 :=
 ⟨h.name,h.l1,h.l2,h.l3,h.l4,h.exprs.below hb,h.regs.below hb,h.body.below hb,h.els.below hb⟩
theorem SPart.more {w:World}{B B':Nat}{s:S.BS}{A1 A2 A3 A4:Option Addr}(h:SPart w B s A1 A2 A3 A4)(hB:B<=B'):SPart w B' s A1 A2 A3 A4 :=
 ⟨h.name,h.l1,h.l2,h.l3,h.l4,h.exprs.more hB,h.regs.more hB,h.body.more hB,h.els.more hB⟩
def sVal (s:S.BS)(A1 A2 A3 A4:Option Addr)(c1 c2 c3 c4:Nat):List Value :=
 [.int .i64 s.op,.int .i64 s.n,.string s.name,.slice A1 s.exprs.length c1,.slice A2 s.regs.length c2,.slice A3 s.body.length c3,.slice A4 s.els.length c4]
theorem SList.at_ {w:World}{B:Nat}{A:Option Addr}{l:List S.BS}(h:SList w B A l){k:Nat}{s:S.BS}(hk:l[k]?=some s) :
 ∃ b off A1 c1 A2 c2 A3 c3 A4 c4,A=some ⟨b,off,none⟩/\b<B/\w.cell? ⟨b,off+k*7,none⟩=some (.int .i64 s.op)/\w.cell? ⟨b,off+k*7+1,none⟩=some (.int .i64 s.n)/\w.cell? ⟨b,off+k*7+2,none⟩=some (.string s.name) /\
  w.cell? ⟨b,off+k*7+3,none⟩=some (.slice A1 s.exprs.length c1)/\w.cell? ⟨b,off+k*7+4,none⟩=some (.slice A2 s.regs.length c2)/\w.cell? ⟨b,off+k*7+5,none⟩=some (.slice A3 s.body.length c3) /\
  w.cell? ⟨b,off+k*7+6,none⟩=some (.slice A4 s.els.length c4)/\SPart w B s A1 A2 A3 A4:=by
 rcases h with h | ⟨b,off,h1,h2,h3⟩
 ·subst h;simp at hk
 ·have h4:=h3.at_ hk
  obtain ⟨op,n,name,exprs,regs,body,els⟩:=s;rw [SCell] at h4;obtain ⟨q1,q2,q3,q4,q5,q6,q7,q8,⟨A1,c1,a1,a2⟩,⟨A2,c2,b1,b2⟩,⟨A3,c3,d1,d2⟩,⟨A4,c4,e1,e2⟩⟩:=h4;exact ⟨b,off,A1,c1,A2,c2,A3,c3,A4,c4,h1,h2,q1,q2,q3,a1,b1,d1,e1,q4,q5,q6,q7,q8,a2,b2,d2,e2⟩
mutual
def szE:S.BE->Nat
 | .mk _ _ _ kids=>1+Zek kids
def Zek:List S.BE->Nat
 | []=>0
 | e::r=>szE e+Zek r
end
theorem Zjy:∀ {l:List S.BE} {e:S.BE},e∈l->szE e<=Zek l
 | x::r,e,h=>by
  rw [Zek];rcases Yu.1 h with rfl | h
  ·omega
  ·have:=Zjy h;omega
theorem Zdb (e:S.BE):szE e=1+Zek e.kids:=by
 obtain ⟨op,n,name,kids⟩:=e;rw [szE];rfl
mutual
def szS:S.BS->Nat
 | .mk _ _ _ exprs _ body els=>1+Zek exprs+Zgn body+Zgn els
def Zgn:List S.BS->Nat
 | []=>0
 | s::r=>szS s+Zgn r
end
theorem Znn:∀ {l:List S.BS} {s:S.BS},s∈l->szS s<=Zgn l
 | x::r,e,h=>by
  rw [Zgn];rcases Yu.1 h with rfl | h
  ·omega
  ·have:=Znn h;omega
theorem Zg6 (s:S.BS):szS s=1+Zek s.exprs+Zgn s.body+Zgn s.els:=by
 obtain ⟨op,n,name,exprs,regs,body,els⟩:=s;rw [szS];rfl
end
section
open Go.RowKit
theorem Zg7 (s:ByteArray):(s.toList != ([]:List UInt8))=decide (s.size≠0):=by
 rw [ByteArray.toList_eq]
 cases h:s.data.toList with
 | nil =>
  have:s.size=0:=by show s.data.size=0;rw [<- Array.length_toList,h];rfl
  simp [this]
 | cons x r =>
  have:s.size≠0:=by show s.data.size≠0;rw [<- Array.length_toList,h];simp
  simp [this]
theorem Zno (s:ByteArray)(w:World)(hs:s.size<=maxLen):Calls Tryz.prog 184 #[.string s] w fun e w'=>e=.returned (.bool (S.labB s))/\w=w':=by
 have Hne:=Ya (Zg7 s);have Hc:=Ya (Zaj s w hs);by_cases h:s.toList=[]
 ·have Hr:=Ya (show S.labB s=false from by
   have h1:decide (s.size≠0)=false:=by rw [<- Zg7 s];simp [h]
   show (decide (s.size≠0) && !S.ownB s)=false
   rw [h1];rfl)
  clear hs;go_enter Tryz.func184,Tryz.ntmps184
  go_wp2_with fail
  go_ret
  exact ⟨Zf Hr.out.symm,rfl⟩
 ·have Hr:=Ya (show S.labB s=!S.ownB s from by
   have h1:decide (s.size≠0)=true:=by rw [<- Zg7 s];simp [h]
   show (decide (s.size≠0) && !S.ownB s)=_
   rw [h1];rfl)
  clear hs;go_enter Tryz.func184,Tryz.ntmps184
  go_wp2_with fail
  refine Hc.out.mono ?_;rintro e w2 ⟨rfl,rfl⟩;go_wp2_with fail
  go_ret
  exact ⟨Zf (by rw [Hr.out];simp [h]),rfl⟩
theorem Zo0 (n:Int)(w:World):Calls Tryz.prog 219 #[.int .i64 n] w fun e w'=>e=.returned (.bool (S.offB n))/\w=w':=by
 by_cases h:-32768<=n
 ·by_cases h2:n<32768
  ·have Hr:=Ya (show true=S.offB n from (decide_eq_true ⟨h,h2⟩).symm)
   go_enter Tryz.func219,Tryz.ntmps219
   go_wp2_with fail
   go_ret
   exact ⟨Zf Hr.out,rfl⟩
  ·have Hr:=Ya (show false=S.offB n from (decide_eq_false (by omega)).symm)
   go_enter Tryz.func219,Tryz.ntmps219
   go_wp2_with fail
   go_ret
   exact ⟨Zf Hr.out,rfl⟩
 ·have Hr:=Ya (show false=S.offB n from (decide_eq_false (by omega)).symm)
  go_enter Tryz.func219,Tryz.ntmps219
  go_wp2_with fail
  go_ret
  exact ⟨Zf Hr.out,rfl⟩
theorem Ze7 (n:Int)(w:World):Calls Tryz.prog 220 #[.int .i64 n] w fun e w'=>e=.returned (.bool (S.visB n))/\w=w':=by
 rcases (show (1<=n/\n<=10)\/n<1\/(10<n/\n<26)\/n=26\/n=27\/n=28\/n=29\/n=30\/30<n by omega) with ⟨h,h'⟩ | h | ⟨h,h'⟩ | rfl | rfl | rfl | rfl | rfl | h
 ·have Hr:=Ya (show true=S.visB n from (decide_eq_true (.inl ⟨h,h'⟩)).symm)
  go_enter Tryz.func220,Tryz.ntmps220
  go_wp2_with fail
  go_ret
  exact ⟨Zf Hr.out,rfl⟩
 ·have Hr:=Ya (show false=S.visB n from (decide_eq_false (by omega)).symm)
  have n1:(n==26)=false:=by simp;omega
  have n2:(n==27)=false:=by simp;omega
  have n3:(n==29)=false:=by simp;omega
  have n4:(n==30)=false:=by simp;omega
  go_enter Tryz.func220,Tryz.ntmps220
  go_wp2_with fail
  go_ret
  first
   | exact ⟨Zf Hr.out,rfl⟩
   | exact ⟨Zf ((decide_eq_false (by omega)).trans Hr.out),rfl⟩
 ·have Hr:=Ya (show false=S.visB n from (decide_eq_false (by omega)).symm)
  have n1:(n==26)=false:=by simp;omega
  have n2:(n==27)=false:=by simp;omega
  have n3:(n==29)=false:=by simp;omega
  have n4:(n==30)=false:=by simp;omega
  go_enter Tryz.func220,Tryz.ntmps220
  go_wp2_with fail
  go_ret
  first
   | exact ⟨Zf Hr.out,rfl⟩
   | exact ⟨Zf ((decide_eq_false (by omega)).trans Hr.out),rfl⟩
 ·go_enter Tryz.func220,Tryz.ntmps220
  go_wp2_with fail
  go_ret
  exact ⟨Zf rfl,rfl⟩
 ·go_enter Tryz.func220,Tryz.ntmps220
  go_wp2_with fail
  go_ret
  exact ⟨Zf rfl,rfl⟩
 ·go_enter Tryz.func220,Tryz.ntmps220
  go_wp2_with fail
  go_ret
  exact ⟨Zf rfl,rfl⟩
 ·go_enter Tryz.func220,Tryz.ntmps220
  go_wp2_with fail
  go_ret
  exact ⟨Zf rfl,rfl⟩
 ·go_enter Tryz.func220,Tryz.ntmps220
  go_wp2_with fail
  go_ret
  exact ⟨Zf rfl,rfl⟩
 ·have Hr:=Ya (show false=S.visB n from (decide_eq_false (by omega)).symm)
  have n1:(n==26)=false:=by simp;omega
  have n2:(n==27)=false:=by simp;omega
  have n3:(n==29)=false:=by simp;omega
  have n4:(n==30)=false:=by simp;omega
  go_enter Tryz.func220,Tryz.ntmps220
  go_wp2_with fail
  go_ret
  first
   | exact ⟨Zf Hr.out,rfl⟩
   | exact ⟨Zf ((decide_eq_false (by omega)).trans Hr.out),rfl⟩
def Zva (l:List Int)(k:Nat):Prop:=∀ j,j<k->S.visB (l.getD j 0)=true/\(0<j->l.getD (j-1) 0<l.getD j 0)
theorem Zi0:∀ (l:List Int),S.risingB l=true↔Zva l l.length
 | []=>by
  constructor
  ·intro _ j hj;simp at hj
  ·intro _;rfl
 | [a]=>by
  rw [S.risingB]
  constructor
  ·intro h j hj
   have:j=0:=by simpa using hj
   subst this;exact ⟨h,by omega⟩
  ·intro h;exact (h 0 (by simp)).1
 | a::b::r=>by
  rw [S.risingB];simp only [Yp,decide_eq_true_eq];rw [Zi0 (b::r)]
  constructor
  ·rintro ⟨⟨h1,h2⟩,h3⟩ j hj
   rcases j with _ | j
   ·exact ⟨h1,by omega⟩
   ·obtain ⟨q1,q2⟩:=h3 j (by simpa using hj)
    refine ⟨q1,fun _=>?_⟩;rcases j with _ | j
    ·exact h2
    ·exact q2 (by omega)
  ·intro h
   refine ⟨⟨(h 0 (by simp)).1,(h 1 (by simp)).2 (by omega)⟩,fun j hj=>?_⟩;obtain ⟨q1,q2⟩:=h (j+1) (by simpa using hj);refine ⟨q1,fun hp=>?_⟩;have:=q2 (by omega);rcases j with _ | j
   ·omega
   ·exact this
theorem Zvb (A:Option Addr)(c:Nat)(l:List Int)(w:World)(hA:Ints w w.heap.size A l)(hl:l.length<=maxLen):Calls Tryz.prog 221 #[.slice A l.length c] w fun e w'=>e=.returned (.bool (S.risingB l))/\w=w':=by
 unfold maxLen at hl;obtain ⟨N,hN⟩:=Yx l.length;rw [<- hN] at hl ⊢;have HN:=Ya hN;have Hall:=Ya (Zi0 l);clear hN;go_enter Tryz.func221,Tryz.ntmps221
 go_wp2_with fail
 go_loopw [3,4,7] (fun _ _ v7 wr=>∃ k:Nat,k<=N/\v7=.int .i64 k/\w=wr/\Hid (Zva l k)) (fun _ _ v7 _=>N-(intOf v7).toNat)
 case atStart=>exact ⟨0,by omega,rfl,rfl,Ya fun j hj=>by omega⟩
 case round =>
  obtain ⟨k,hk,rfl,rfl,HR⟩:=hrel;by_cases hlt:k<N
  ·have hkl:k<l.length:=by rw [<- HN.out];exact hlt
   obtain ⟨b,off,rfl,hbB,hc⟩:=hA.two (by omega);obtain ⟨x,hx⟩:∃ x,l[k]?=some x:=⟨_,Yd hkl⟩
   have hx0:=hc k x hx;have hgx:l.getD k 0=x:=by simp [hx]
   cases hv:S.visB x with
   | false =>
    have Hf:=Ya (show S.risingB l=false from by
     rw [<- Yb5,Hall.out];intro h;have:=(h k hkl).1;rw [hgx,hv] at this
     cases this)
    have Hv:=Ya (Ze7 x w);rw [hv] at Hv;clear hv hgx hx hc;go_wp2_with fail
    refine Hv.out.mono ?_;rintro e w2 ⟨rfl,rfl⟩;go_wp2_with fail
    go_ret
    exact ⟨Zf Hf.out.symm,rfl⟩
   | true =>
    have Hv:=Ya (Ze7 x w);rw [hv] at Hv;by_cases hk0:k=0
    ·subst hk0
     rw [Ybj] at hx0;have HR':=Ya (show Zva l 1 from fun j hj=>by
      have:j=0:=by omega
      subst this;exact ⟨by rw [hgx];exact hv,by omega⟩)
     clear hv hgx hx hc;go_wp2_with fail
     refine Hv.out.mono ?_;rintro e w2 ⟨rfl,rfl⟩;go_wp2_with fail
     go_roundw
     case rel=>exact ⟨1,by omega,by first | rfl | go_num,by first | rfl | trivial,HR'⟩
     case measure=>simp [intOf];omega
    ·obtain ⟨y,hy⟩:∃ y,l[k-1]?=some y:=⟨_,Yd (by omega)⟩
     have hy0:=hc (k-1) y hy;have hgy:l.getD (k-1) 0=y:=by simp [hy]
     have hk1:0<k:=by omega
     have et:((k:Int)-1).toNat=k-1:=by omega
     have eo:off+((k:Int)-1).toNat=off+(k-1):=by omega
     by_cases hyx:y<x
     ·have HR':=Ya (show Zva l (k+1) from fun j hj=>by
       by_cases hjk:j=k
       ·subst hjk
        exact ⟨by rw [hgx];exact hv,fun _=>by rw [hgx,hgy];exact hyx⟩
       ·exact HR.out j (by omega))
      clear hv hgx hgy hx hy hc hk0;go_wp2_with fail
      refine Hv.out.mono ?_;rintro e w2 ⟨rfl,rfl⟩;go_wp2_with fail
      go_roundw
      case rel=>exact ⟨k+1,by omega,by go_num,by first | rfl | trivial,HR'⟩
      case measure=>simp [intOf];omega
     ·have Hf:=Ya (show S.risingB l=false from by
       rw [<- Yb5,Hall.out];intro h;have:=(h k hkl).2 hk1;rw [hgx,hgy] at this;exact hyx this)
      clear hv hgx hgy hx hy hc hk0;go_wp2_with fail
      refine Hv.out.mono ?_;rintro e w2 ⟨rfl,rfl⟩;go_wp2_with fail
      go_ret
      exact ⟨Zf Hf.out.symm,rfl⟩
  ·have hkN:k=N:=by omega
   subst hkN;go_wp2_with fail
   go_ret
   refine ⟨?_,rfl⟩;have:S.risingB l=true:=by rw [Hall.out,<- HN.out];exact HR.out
   exact Zf this.symm
end
section
open Go.RowKit
theorem Zg8 (e:S.BE):∀ (l:List S.BE) (i:Nat),S.needEs (l++[e]) i=max (S.needEs l i) (i+l.length+max 1 (S.needE e))
 | [],i=>by simp only [Yad,S.needEs,List.length_nil];omega
 | x::r,i=>by
  rw [Yv,S.needEs,S.needEs,Zg8 e r (i+1)];simp only [Yl];omega
mutual
theorem Zvc:∀ (e:S.BE),S.needE e<=szE e
 | .mk op n name kids=>by
  rw [S.needE,szE];have:=Ze8 kids 0;omega
theorem Ze8:∀ (l:List S.BE) (i:Nat),S.needEs l i<=i+Zek l
 | [],i=>by rw [S.needEs];omega
 | e::r,i=>by
  rw [S.needEs,Zek];have h1:=Zvc e;have h2:=Ze8 r (i+1);have h3:=Zdb e;omega
end
theorem Zdc {α:Type}(l:List α){k:Nat}{x:α}(h:l[k]?=some x):l.take (k+1)=l.take k++[x]:=by
 rw [List.take_add_one,h];rfl
theorem Znp (l m:List S.BE):Zek (l++m)=Zek l+Zek m:=by
 induction l with
 | nil=>rw [Yad,Zek,Yae]
 | cons x r ih=>rw [Yv,Zek,Zek,ih,Nat.add_assoc]
theorem Zr3 (l:List S.BE)(k:Nat):Zek (l.take k)<=Zek l:=by
 have:Zek l=Zek (l.take k)+Zek (l.drop k):=by rw [<- Znp,List.take_append_drop]
 omega
theorem Zec:∀ l:List S.BE,l.length<=Zek l
 | []=>by simp
 | e::r=>by
  rw [Zek,Yl];have:=Zec r;have:=Zdb e;omega
theorem Zzm:∀ (n:Nat) (A:Option Addr) (c:Nat) (l:List S.BE) (w:World),Zek l<=n->n<=1000000000->EList w w.heap.size A l ->
 Calls Tryz.prog 207 #[.slice A l.length c] w fun e w'=>e=.returned (.int .i64 (S.needEs l 0:Nat))/\Below w.heap.size w w':=by
 intro n
 induction n with
 | zero =>
  intro A c l w hn hn2 hA;have hl:l=[]:=by
   cases l with
   | nil=>rfl
   | cons e r=>rw [Zek] at hn;have:=Zdb e;omega
  subst hl;go_enter Tryz.func207,Tryz.ntmps207
  go_wp2_with fail
  go_loopw [3,8] (fun v3 v8 wr=>v3=.int .i64 0/\v8=.int .i64 0/\w=wr) (fun _ _ _=>0)
  case atStart=>exact ⟨rfl,rfl,rfl⟩
  case round =>
   obtain ⟨rfl,rfl,rfl⟩:=hrel;go_wp2_with fail
   go_ret
   exact ⟨rfl,Below.refl _ _⟩
 | succ n ih =>
  intro A c l w hn hn2 hA;have hlen:=Zec l;obtain ⟨N,hN⟩:=Yx l.length;rw [<- hN] at hlen ⊢;have HN:=Ya hN;have HA:=Ya hA;clear hN hA;go_enter Tryz.func207,Tryz.ntmps207
  go_wp2_with fail
  go_loopw [3,8] (fun v3 v8 wr=>∃ (k m:Nat),k<=N/\v8=.int .i64 k/\v3=.int .i64 m/\Hid (m=S.needEs (l.take k) 0)/\m<=1000000000/\Below w.heap.size w wr) (fun _ v8 _=>N-(intOf v8).toNat)
  case atStart=>exact ⟨0,0,by omega,rfl,rfl,Ya (by rw [List.take_zero,S.needEs]),by omega,Below.refl _ _⟩
  case round =>
   obtain ⟨k,m,hk,rfl,rfl,HM,hm,hbk⟩:=hrel;by_cases hlt:k<N
   ·obtain ⟨e,he⟩:∃ e,l[k]?=some e:=⟨_,Yd (by rw [<- HN.out];exact hlt)⟩
    obtain ⟨b,off,A',c',rfl,hbB,q0,q1,q2,q3,q4,q5,q6⟩:=(HA.out.below hbk).at_ he;have hsz:=Zjy (Yr he);have hsp:=Zdb e;have hkl:(l.take k).length=k:=by have:=HN.out;rw [List.length_take];omega
    have hnx:S.needEs (l.take (k+1)) 0=max m (k+max 1 (S.needE e)):=by
     rw [Zdc l he,Zg8,hkl,<- HM.out,Yae]
    have hnE:S.needE e=S.needEs e.kids 0:=by obtain ⟨op,n',nm,kids⟩:=e;rw [S.needE];rfl
    have hq:=Ze8 e.kids 0;have hbr:b<wr.heap.size:=Yt hbB hbk.size;have hbX:Below wr.heap.size wr (wr.alloc (.cells #[.int .i64 e.op,.int .i64 e.n,.string e.name,.slice A' e.kids.length c'] 95)):=(Below.refl _ _).alloc (Yf _) _;have hrec:=ih A' c' e.kids (wr.alloc (.cells #[.int .i64 e.op,.int .i64 e.n,.string e.name,.slice A' e.kids.length c'] 95)) (by omega) (by omega) (((q6.more hbk.size).below hbX).more hbX.size);obtain ⟨r,hr⟩:=Yx (S.needEs e.kids 0);rw [<- hr] at hrec hnE hq;rw [hnE] at hnx;have hbd:max m (k+max 1 r)<=1000000000:=by
     rw [<- hnx];have h1:=Ze8 (l.take (k+1)) 0;have h2:=Zr3 l (k+1);omega
    obtain ⟨op,en,nm,kl,hop⟩:∃ op en nm kl,op=e.op/\en=e.n/\nm=e.name/\kl=e.kids.length:=⟨_,_,_,_,rfl,rfl,rfl,rfl⟩
    obtain ⟨o1,o2,o3,o4⟩:=hop;rw [<- o1,<- o2,<- o3,<- o4] at hrec hbX;rw [<- o1] at q0;rw [<- o2] at q1;rw [<- o3] at q2;rw [<- o4] at q3;have Hrec:=Ya hrec;have Hnx:=Ya hnx;have HbX:=Ya hbX;clear hrec hnx hbX o1 o2 o3 o4 hr hnE he q4 q5 q6 hkl;go_wp2_with fail
    refine Hrec.out.mono ?_;rintro e2 w2 ⟨rfl,hb2⟩;have hb3:=hbk.trans ((HbX.out.trans (hb2.mono HbX.out.size)).mono hbk.size);have hmx:(max (1:Int) (r:Int))=((max 1 r:Nat):Int):=by omega
    go_wp2_with fail
    go_roundw
    case rel =>
     refine ⟨k+1,max m (k+max 1 r),by omega,by go_num,?_,Ya Hnx.out.symm,hbd,hb3⟩
     congr 1
     (repeat' split) <;> omega
    case measure=>simp [intOf];omega
   ·have hkN:k=N:=by omega
    subst hkN;go_wp2_with fail
    go_ret
    have:S.needEs l 0=m:=by rw [HM.out,HN.out,Yag]
    exact ⟨Zw (by rw [this]),hbk⟩
def Zvd (B g:Nat)(lb:Array Value)(p:S.BE->Bool)(l:List S.BE)(w:World):Prop :=
 ∀ (W:World) (e:S.BE) (v:Value),Below B w W->e∈l->Z2a W W.heap.size e v->Calls Tryz.prog g (#[v]++lb) W fun x w'=>x=.returned (.bool (p e))/\Below W.heap.size W w'
theorem Znq (B g:Nat)(lb:Array Value)(p:S.BE->Bool)(eg:∀ args w,(callFunc g args).run Tryz.prog w=.ok (.enter g args) w)(w:World)(hB:B<=w.heap.size)(A:Option Addr)(l:List S.BE)(c:Nat)(hp:Zvd B g lb p l w)(hA:EList w B A l)(hl:l.length<=1000000000) :
 Calls Tryz.prog 222 #[.slice A l.length c,.func (.func g) #[] lb] w fun e w'=>(∃ r:Int,e=.returned (.int .i64 r)/\decide (0<=r)=l.any p)/\Below w.heap.size w w':=by
 obtain ⟨N,hN⟩:∃ N:Nat,N=l.length:=⟨_,rfl⟩
 rw [<- hN] at hl ⊢;have HN:=Ya hN;have HA:=Ya hA;clear hN hA;go_enter Tryz.func222,Tryz.ntmps222
 go_wp2_with fail
 go_loopw [5,8] (fun _ v8 wr=>∃ k:Nat,k<=N/\v8=.int .i64 k/\Below w.heap.size w wr/\Hid (∀ x∈l.take k,p x=false)) (fun _ v8 _=>N-(intOf v8).toNat)
 case atStart=>exact ⟨0,by omega,rfl,Below.refl _ _,Ya (by simp)⟩
 case round =>
  obtain ⟨k,hk,rfl,hbk,hpre⟩:=hrel;by_cases hlt:k<N
  ·obtain ⟨e,he⟩:∃ e,l[k]?=some e:=⟨_,Yd (by rw [<- HN.out];exact hlt)⟩
   have hbB2:=hbk.mono hB;obtain ⟨b,off,A',c',rfl,hbB,q0,q1,q2,q3,q4,q5,q6⟩:=(HA.out.below hbB2).at_ he;have hbr:b<wr.heap.size:=by have:=hbk.size;omega
   have hcall:=hp wr e (.agg #[.int .i64 e.op,.int .i64 e.n,.string e.name,.slice A' e.kids.length c']) hbB2 (Yr he) ⟨A',c',rfl,q4,q5,q6.more (Nat.le_trans hB hbk.size)⟩;obtain ⟨q,hq⟩:=Yx (p e);rw [<- hq] at hcall;have Hq:=Ya hq;have Hx:=Ya he;obtain ⟨op,en,nm,kl,hop⟩:∃ op en nm kl,op=e.op/\en=e.n/\nm=e.name/\kl=e.kids.length:=⟨_,_,_,_,rfl,rfl,rfl,rfl⟩
   obtain ⟨o1,o2,o3,o4⟩:=hop;rw [<- o1,<- o2,<- o3,<- o4] at hcall;rw [<- o1] at q0;rw [<- o2] at q1;rw [<- o3] at q2;rw [<- o4] at q3;have Hp:=Ya hp;clear hp hq he o1 o2 o3 o4 q4 q5 q6 hbB2
   cases q with
   | true =>
    go_wp2_with (go_at_fn g;refine hcall.mono ?_;rintro e2 w2 ⟨rfl,hb2⟩)
    go_ret
    refine ⟨⟨(k:Int),rfl,?_⟩,hbk.trans (hb2.mono hbk.size)⟩;rw [decide_eq_true (by omega)]
    symm
    rw [Ybf];exact ⟨e,Yr Hx.out,Hq.out.symm⟩
   | false =>
    go_wp2_with (go_at_fn g;refine hcall.mono ?_;rintro e2 w2 ⟨rfl,hb2⟩)
    go_roundw
    case rel =>
     refine ⟨k+1,by omega,by go_num,hbk.trans (hb2.mono hbk.size),Ya (fun y hy=>?_)⟩;rw [Zdc l Hx.out] at hy;rcases Y8.1 hy with hy | hy
     ·exact hpre.out y hy
     ·have:y=e:=by simpa using hy
      rw [this];exact Hq.out.symm
    case measure=>simp [intOf];omega
  ·have hkN:k=N:=by omega
   subst hkN;clear hp;go_wp2_with fail
   go_ret
   refine ⟨⟨-1,rfl,?_⟩,hbk⟩;rw [decide_eq_false (by omega)]
   symm
   rw [List.any_eq_false];intro y hy;have:=hpre.out y (by rw [HN.out,Yag];exact hy);simp [this]
theorem Zen (B g:Nat)(lb:Array Value)(p:S.BE->Bool)(eg:∀ args w,(callFunc g args).run Tryz.prog w=.ok (.enter g args) w)(w:World)(hB:B<=w.heap.size)(A:Option Addr)(l:List S.BE)(c:Nat)(hp:Zvd B g lb p l w)(hA:EList w B A l)(hl:l.length<=1000000000) :
 Calls Tryz.prog 204 #[.slice A l.length c,.func (.func g) #[] lb] w fun e w'=>e=.returned (.bool (l.any p))/\Below w.heap.size w w':=by
 have HI:=Ya (Znq B g lb p eg w hB A l c hp hA hl);generalize l.any p=r at *;clear hp hA eg;go_enter Tryz.func204,Tryz.ntmps204
 go_wp2_with (go_at_call 222;refine HI.out.mono ?_;rintro e w2 ⟨⟨n,rfl,hn⟩,hb2⟩)
 all_goals
  go_ret
  exact ⟨by simp_all,hb2⟩
end
end Go.Proofs.YtdeepoikgfaecaaGreatDoor
