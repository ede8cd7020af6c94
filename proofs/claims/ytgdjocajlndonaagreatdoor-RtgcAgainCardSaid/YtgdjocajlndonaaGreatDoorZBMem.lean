/- Parts. -/
import Derived.Test.YtgdjocajlndonaaGreatDoorZGCol
set_option linter.all false
open List renaming getElem?_eq_getElem->Yc,length_append->Yd,getElem?_eq_some_iff->Yg,append_assoc->Ym,getElem?_append_left->Yn,length_map->Yp,getElem?_append_right->Yq,getElem?_map->Ys,mem_append->Yw,mem_cons->Yz,not_mem_nil->Y6,mem_map->Y7,nil_append->Yab,getElem?_cons_zero->Ya1,all_eq_true->Ya3,map_cons->Ya4,getElem?_cons_succ->Ya9,any_eq_true->Ybr
open Nat renaming le_refl->Yf,lt_of_lt_of_le->Y5,add_sub_cancel_left->Yap,add_zero->Ybp
open Bool renaming and_eq_true->Yr
namespace Go.Proofs.YtgdjocajlndonaaGreatDoor
section
open Go.RowKit
def S.bg (st:S.Vw)(m:Int):S.Vw:={ st with mem:=fun a=>if a=8 then (if 6<m then 8 else m+1) else if a=6 then 0 else if a=16 then st.reg 1 else if a=23 then st.reg 10 else if 17<=a/\a<=22 then st.reg (a-13) else st.mem a }
section
variable {I:S.Img}(hI:I.Ok){cf:S.Cf}(hc:S.Cf.Ok I cf){T:S.Ob->Prop}
include hI hc
end
end
section
open Go.RowKit
def S.di (I:S.Img)(mem:Int->Int)(lo hi e:Int):Int->List Int->Prop
 | v,[]=>v=e
 | v,x::r=>∃ a,v=4*a+1/\lo<=a/\a+3<=hi/\(∀ j:Nat,j<3->S.Dat I (a+j))/\mem a=67/\mem (a+1)=x/\S.di I mem lo hi e (mem (a+2)) r
section
variable {I:S.Img}(hI:I.Ok){cf:S.Cf}(hlow:∀ a,0<=a->a<1056->S.Dat I a)
section
variable {dep lk:Int}{behind:Bool}{env:List Int}{st:S.Vw}{r:List S.BS}{c:Nat}{Q:List Int->S.Vw->Nat->Prop}{R:S.BO->Nat->Prop}
include hI
end
end
end
section
open Go.RowKit
structure S.du (I:S.Img)(m:Nat)(L:List Int)(lo hi:Int)(s0:S.Vw)(v:Int)(i:Nat)(st:S.Vw):Prop where
 reg:st.reg=s0.reg
 inp:st.inp=s0.inp
 out:st.out=s0.out
 mem:∀ a,¬ (17+(m:Int)<=a/\a<17+m+i)->st.mem a=s0.mem a
 it:∀ (q:Nat) (x:Int),q<i->L[q]?=some x->st.mem (17+m+q)=x
 lst:S.di I s0.mem lo hi 38 v (L.drop i)
section
variable {I:S.Img}(hI:I.Ok)(hlow:∀ a,0<=a->a<1056->S.Dat I a)
include hI hlow
end
end
section
open Go.RowKit
namespace S
def bSp (n:Int):Item:=⟨8,⟨0,0,0,0,0⟩,bNo,n⟩
def bHalt:Item:=bI 36 0 0 0 0
def hItems (gw sw:List Int):List Item:=bSp 1312::(gw.map bW++(bL kStatic::(sw.map bW++[bL kCode,bL kStub,bHalt,bL kMapped,bW 0,bHalt])))
def tItems:List Item:=[bL kMore,bSp 8,bL kEnd]
def oHead (gw sw:List Int):Obj:=⟨kHead,hItems gw sw⟩
def oTail:Obj:=⟨kTail,tItems⟩
def mid:List Item:=joined (objs26++[oMain])
def wObjs (gw sw:List Int):List Obj:=oHead gw sw::(objs26++[oMain])++[oTail]
def nodupB:List ByteArray->Bool
 | []=>true
 | x::r=>!(r.any fun y=>decide (x=y)) && nodupB r
def subB (a b:List ByteArray):Bool:=a.all fun s=>b.any fun t=>decide (s=t)
def hTells:List ByteArray:=[kStatic,kCode,kStub,kMapped]
def Z1s:List ByteArray:=[kMore,kEnd]
def wTells:List ByteArray:=hTells++tells mid++Z1s
def midB:Bool:=nodupB wTells && subB (names mid) wTells && mid.all (fun x=>decide (chkItem x=0)) && mid.all (fun x=>decide (0<=x.word/\x.word<=4294967295)) && decide (bulk mid<=8000)
end S
theorem Zm2:S.midB=true:=by kernel_rfl
theorem Zlb:∀ {l:List ByteArray},S.nodupB l=true->l.Nodup
 | [],_=>List.nodup_nil
 | x::r,h=>by
  rw [S.nodupB,Yr] at h;refine List.nodup_cons.2 ⟨fun hx=>?_,Zlb h.2⟩;have:(r.any fun y=>decide (x=y))=true:=Ybr.2 ⟨x,hx,decide_eq_true rfl⟩;rw [this] at h;exact absurd h.1 (by decide)
theorem Z1t {a b:List ByteArray}(h:S.subB a b=true):∀ s∈a,s∈b:=fun s hs=>by
 obtain ⟨t,ht,he⟩:=Ybr.1 (Ya3.1 h s hs);rw [of_decide_eq_true he];exact ht
theorem Zm3:S.wTells.Nodup:=Zlb (by have:=Zm2;unfold S.midB at this;simp only [Yr] at this;exact this.1.1.1.1)
theorem Zt0:∀ s∈S.names S.mid,s∈S.wTells:=Z1t (by have:=Zm2;unfold S.midB at this;simp only [Yr] at this;exact this.1.1.1.2)
theorem Zz6:S.allChk S.mid:=fun x hx=>by
 have:=Zm2;unfold S.midB at this;simp only [Yr] at this;exact of_decide_eq_true (Ya3.1 this.1.1.2 x hx)
theorem Zt1:∀ x∈S.mid,0<=x.word/\x.word<=4294967295:=fun x hx=>by
 have:=Zm2;unfold S.midB at this;simp only [Yr] at this;exact of_decide_eq_true (Ya3.1 this.1.2 x hx)
theorem Zw8:S.bulk S.mid<=8000:=by
 have:=Zm2;unfold S.midB at this;simp only [Yr] at this;exact of_decide_eq_true this.2
theorem Zf4 (a b:List S.Obj):S.joined (a++b)=S.joined a++S.joined b:=List.flatMap_append
theorem Zcw (gw sw:List Int):S.joined (S.wObjs gw sw)=S.hItems gw sw++(S.mid++S.tItems):=by
 have hh:S.joined [S.oHead gw sw]=S.hItems gw sw:=by
  have e:S.joined [S.oHead gw sw]=(S.hItems gw sw).map (S.ownItem S.kHead):=by simp [S.joined,S.itemsOf,S.oHead]
  rw [e];have:∀ x∈S.hItems gw sw,S.ownItem S.kHead x=x:=by
   intro x hx;unfold S.hItems at hx;simp only [Yz,Yw,Y7,Y6,or_false] at hx;rcases hx with rfl | ⟨w,_,rfl⟩ | rfl | ⟨w,_,rfl⟩ | rfl | rfl | rfl | rfl | rfl | rfl <;> rfl
  exact (List.map_congr_left this).trans (List.map_id _)
 have ht:S.joined [S.oTail]=S.tItems:=rfl;have e:S.wObjs gw sw=[S.oHead gw sw]++((S.objs26++[S.oMain])++[S.oTail]):=by simp [S.wObjs]
 rw [e,Zf4,Zf4,hh,ht];rfl
theorem Zqb (l:List Int):S.tells (l.map S.bW)=[]/\S.names (l.map S.bW)=[]/\S.bulk (l.map S.bW)=4*l.length/\S.allChk (l.map S.bW):=by
 induction l with
 | nil=>exact ⟨rfl,rfl,rfl,Zkn⟩
 | cons x r ih =>
  obtain ⟨h1,h2,h3,h4⟩:=ih;refine ⟨?_,?_,?_,Zaa (by simp [S.chkItem,S.bW]) h4⟩
  ·rw [Ya4,S.tells,if_neg (show ¬ (S.bW x).kind=2 from (by decide:¬ (6:Int)=2)),h1]
  ·rw [Ya4,S.names,if_neg (show ¬ S.named (S.bW x)=true from by simp [S.named,S.bW]),h2]
  ·rw [Ya4,S.bulk,if_neg (show ¬ (S.bW x).kind=8 from (by decide:¬ (6:Int)=8)),h3,List.length_cons];omega
theorem Zhe (gw sw:List Int):S.tells (S.hItems gw sw)=S.hTells/\S.names (S.hItems gw sw)=[]/\S.bulk (S.hItems gw sw)=1312+4*gw.length+4*sw.length+28/\S.allChk (S.hItems gw sw):=by
 obtain ⟨g1,g2,g3,g4⟩:=Zqb gw;obtain ⟨s1,s2,s3,s4⟩:=Zqb sw;unfold S.hItems;refine ⟨?_,?_,?_,?_⟩
 ·rw [S.tells,if_neg (by decide),Zbc,g1,Yab,S.tells,if_pos (by decide),Zbc,s1,Yab]
  rfl
 ·rw [S.names,if_neg (by decide),Zc0,g2,Yab,S.names,if_neg (by decide),Zc0,s2,Yab]
  rfl
 ·rw [S.bulk,if_pos (by decide),Zck,g3,S.bulk,if_neg (by decide),Zck,s3]
  have:S.bulk [S.bL S.kCode,S.bL S.kStub,S.bHalt,S.bL S.kMapped,S.bW 0,S.bHalt]=24:=by decide
  rw [this]
  show (1312:Int)+_=_
  omega
 ·have hh:S.chkItem S.bHalt=0:=Z2u (Zvl (.inr rfl) (by decide))
  exact Zaa (by simp [S.chkItem,S.bSp]) (Zb6 g4 (Zaa (Zkp _) (Zb6 s4 (Zaa (Zkp _) (Zaa (Zkp _) (Zaa hh (Zaa (Zkp _) (Zaa (by simp [S.chkItem,S.bW]) (Zko hh)))))))))
def S.ab (b:Bool)(gw sw:List Int)(F:List Int)(size:Int):S.Img:=⟨S.joined (S.wObjs gw sw),F,size,if b=true then 2+gw.length+sw.length else gw.length+sw.length+8,gw.length+sw.length+8+S.mid.length,1056,1312⟩
theorem Zb9 (gw sw:List Int):(S.hItems gw sw).length=gw.length+sw.length+8:=by
 unfold S.hItems;simp;omega
theorem Zt2 (gw sw:List Int)(hg:∀ x∈gw,0<=x/\x<=4294967295)(hs:∀ x∈sw,0<=x/\x<=4294967295):∀ x∈S.joined (S.wObjs gw sw),0<=x.word/\x.word<=4294967295:=by
 intro x hx;rw [Zcw] at hx;rcases Yw.1 hx with h | h
 ·unfold S.hItems at h
  simp only [Yz,Yw,Y7,Y6,or_false] at h;rcases h with rfl | ⟨w,hw,rfl⟩ | rfl | ⟨w,hw,rfl⟩ | rfl | rfl | rfl | rfl | rfl | rfl
  ·decide
  ·exact hg w hw
  ·decide
  ·exact hs w hw
  all_goals decide
 ·rcases Yw.1 h with h | h
  ·exact Zt1 x h
  ·unfold S.tItems at h
   simp only [Yz,Y6,or_false] at h;rcases h with rfl | rfl | rfl <;> decide
theorem Z36 {gw sw:List Int}{e:Int}{F:List Int}{size:Int}(h:S.FormsRes (S.joined (S.wObjs gw sw)) 0 e F)(hg:∀ x∈gw,0<=x/\x<=4294967295)(hs:∀ x∈sw,0<=x/\x<=4294967295)(hgl:gw.length<=100)(hsl:sw.length<=100)
 (hsz:e=0->S.addr (S.joined (S.wObjs gw sw)) F 0 (S.joined (S.wObjs gw sw)).length<size) (hsz2:size<=335544320):e=0/\(∀ b,(S.ab b gw sw F size).Ok)/\S.addr (S.joined (S.wObjs gw sw)) F 0 (S.joined (S.wObjs gw sw)).length<=12000:=by
 obtain ⟨h1,h2,h3,h4⟩:=Zhe gw sw;have hx:=Zcw gw sw;have hw:=Zt2 gw sw hg hs;have k1:S.tells (S.joined (S.wObjs gw sw))=S.wTells:=by
  rw [hx,Zbc,Zbc,h1,<- Ym];rfl
 have k2:S.names (S.joined (S.wObjs gw sw))=S.names S.mid:=by
  rw [hx,Zc0,Zc0,h2,Yab];have:S.names S.tItems=[]:=by decide
  rw [this,List.append_nil]
 have k3:S.allChk (S.joined (S.wObjs gw sw)):=by
  rw [hx];exact Zb6 h4 (Zb6 Zz6 (Zaa (Zkp _) (Zaa (by simp [S.chkItem,S.bSp]) (Zko (Zkp _)))))
 have k4:S.bulk (S.joined (S.wObjs gw sw))<=12000:=by
  rw [hx,Zck,Zck,h3];have:S.bulk S.tItems=16:=by decide
  have:=Zw8;omega
 obtain ⟨e0,hF,ha⟩:=Z2t h k3 (by rw [k1];exact Zm3) (by rw [k2,k1];exact Zt0) (by omega);subst e0;have hlen:=Zb9 gw sw;have hxl:(S.joined (S.wObjs gw sw)).length=gw.length+sw.length+8+S.mid.length+3:=by
  rw [hx,Yd,Yd,hlen,show S.tItems.length=3 from rfl];omega
 have hsz':=hsz rfl;have ha0:1312<=S.addr (S.joined (S.wObjs gw sw)) F 0 (2+gw.length+sw.length):=by
  refine Int.le_trans ?_ (Zc4 hF hw (i:=1) (by omega));have hx0:(S.joined (S.wObjs gw sw))[0]?=some (S.bSp 1312):=by rw [hx];rfl
  have:S.addr (S.joined (S.wObjs gw sw)) F 0 1=0+S.sizeAt (S.joined (S.wObjs gw sw)) F 0:=rfl;rw [this];have hsz:S.sizeAt (S.joined (S.wObjs gw sw)) F 0=1312:=by
   unfold S.sizeAt;rw [hx0]
   show S.size (S.bSp 1312) (F.getD 0 0)=1312
   unfold S.size S.bSp;simp
  rw [hsz]
  decide
 have hatop:=Zc4 hF hw (base:=0) (i:=2+gw.length+sw.length) (n:=(S.joined (S.wObjs gw sw)).length) (by omega);refine ⟨rfl,fun b=>⟨h,hw,by show (if b=true then 2+gw.length+sw.length else gw.length+sw.length+8)<=gw.length+sw.length+8+S.mid.length;split <;> omega,by show gw.length+sw.length+8+S.mid.length<=(S.joined (S.wObjs gw sw)).length;omega,hsz',hsz2,by show (0:Int)<=1056;decide,by show (1056:Int)<=1312;decide,by show (1312:Int)<=size;omega,.inl ?_⟩,by omega⟩
 show 1312<=S.addr (S.joined (S.wObjs gw sw)) F 0 (if b=true then 2+gw.length+sw.length else gw.length+sw.length+8)
 split
 ·exact ha0
 ·exact Int.le_trans ha0 (Zc4 hF hw (by omega))
end
section
open Go.RowKit
theorem Zm4:∀ {os:List S.Obj} {j:Nat} {o:S.Obj},os[j]?=some o->∃ A B,S.joined os=A++(o.items.map (S.ownItem o.name)++B)
 | [],j,o,h=>by cases h
 | x::r,0,o,h=>by
  cases h
  exact ⟨[],S.joined r,rfl⟩
 | x::r,j+1,o,h=>by
  obtain ⟨A,B,e⟩:=Zm4 (os:=r) (j:=j) h;refine ⟨S.itemsOf x++A,B,?_⟩
  show S.itemsOf x++S.joined r=_
  rw [e,Ym]
section
variable {gw sw:List Int}{F:List Int}{size:Int}{b:Bool}
theorem Zz7 {j:Nat}{o:S.Obj}(hj:(S.objs26++[S.oMain])[j]?=some o):∃ i,S.Seg (S.ab b gw sw F size) o.name i o.items:=by
 obtain ⟨A,B,e⟩:=Zm4 hj;have hx:=Zcw gw sw;have hl:=Zb9 gw sw;have hm:S.mid=A++(o.items.map (S.ownItem o.name)++B):=e;refine ⟨gw.length+sw.length+8+A.length,fun k x hk=>?_,?_,?_⟩
 ·show (S.joined (S.wObjs gw sw))[_]?=_
  rw [hx,Yq (by omega),hl,hm];have hlt:=(Yg.1 hk).1;rw [Yn (by simp only [Yd,Yp];omega),Yq (by omega),Yn (by rw [Yp];omega)];rw [show gw.length+sw.length+8+A.length+k-(gw.length+sw.length+8)-A.length=k from by omega,Ys,hk];rfl
 ·show (if b=true then 2+gw.length+sw.length else gw.length+sw.length+8)<=_
  split <;> omega
 ·show _<=gw.length+sw.length+8+S.mid.length
  rw [hm];simp only [Yd,Yp];omega
theorem Zrr {j:Nat}{r:S.BR}(hj:(S.objs26++[S.oMain])[j]?=some (S.ofR r)):∃ i,S.Seg (S.ab b gw sw F size) r.name i (S.bItems r):=Zz7 hj
theorem Za6 {i:Nat}{x:S.Item}(h:(S.hItems gw sw)[i]?=some x):(S.ab b gw sw F size).xs[i]?=some x:=by
 show (S.joined (S.wObjs gw sw))[i]?=_
 rw [Zcw,Yn (Yg.1 h).1];exact h
theorem Zo3 {i:Nat}{x:S.Item}(h:S.tItems[i]?=some x):(S.ab b gw sw F size).xs[gw.length+sw.length+8+S.mid.length+i]?=some x:=by
 show (S.joined (S.wObjs gw sw))[_]?=_
 have hl:=Zb9 gw sw;rw [Zcw,Yq (by omega),hl,Yq (by omega)];rw [show gw.length+sw.length+8+S.mid.length+i-(gw.length+sw.length+8)-S.mid.length=i from by omega];exact h
theorem Zy0 {k:Nat}(hk:k<gw.length):(S.hItems gw sw)[1+k]?=some (S.bW gw[k]):=by
 unfold S.hItems;rw [Nat.add_comm,Ya9,Yn (by rw [Yp];exact hk),Ys,Yc hk];rfl
theorem Zqc {k:Nat}:(S.hItems gw sw)[1+gw.length+k]?=(S.bL S.kStatic::(sw.map S.bW++[S.bL S.kCode,S.bL S.kStub,S.bHalt,S.bL S.kMapped,S.bW 0,S.bHalt]))[k]?:=by
 unfold S.hItems;rw [show 1+gw.length+k=(gw.length+k)+1 from by omega,Ya9,Yq (by rw [Yp];omega),Yp,Yap]
theorem Zy1 {k:Nat}(hk:k<sw.length):(S.hItems gw sw)[2+gw.length+k]?=some (S.bW sw[k]):=by
 rw [show 2+gw.length+k=1+gw.length+(k+1) from by omega,Zqc,Ya9,Yn (by rw [Yp];exact hk),Ys,Yc hk];rfl
theorem Zo4 {k:Nat}:(S.hItems gw sw)[2+gw.length+sw.length+k]?=[S.bL S.kCode,S.bL S.kStub,S.bHalt,S.bL S.kMapped,S.bW 0,S.bHalt][k]?:=by
 rw [show 2+gw.length+sw.length+k=1+gw.length+((sw.length+k)+1) from by omega,Zqc,Ya9,Yq (by rw [Yp];omega),Yp,Yap]
variable (hI:(S.ab b gw sw F size).Ok)
include hI
theorem Zel {i:Nat}{x:S.Item}(hx:(S.ab b gw sw F size).xs[i]?=some x)(hk:x.kind=2):(S.ab b gw sw F size).lab x.label=(S.ab b gw sw F size).adr i:=by
 unfold S.Img.lab;rw [Zim hI hx hk];rfl
theorem Zhv:∀ k:Nat,k<=gw.length->(S.ab b gw sw F size).adr (1+k)=1312+k
 | 0,_=>by
  have:=Z6 hI (i:=0) (x:=S.bSp 1312) (Za6 rfl);rw [this]
  show 0+S.size (S.bSp 1312) _=_
  unfold S.size S.bSp;simp
 | k+1,h=>by
  have ih:=Zhv k (by omega);have:=Z6 hI (i:=1+k) (Za6 (Zy0 (by omega)));rw [show 1+(k+1)=1+k+1 from by omega,this,ih]
  show 1312+(k:Int)+1=_
  omega
theorem Zrs:(S.ab b gw sw F size).adr (2+gw.length)=1312+gw.length:=by
 have h0:=Zhv hI gw.length (Yf _);have:=Z6 hI (i:=1+gw.length) (x:=S.bL S.kStatic) (Za6 (by have:=Zqc (gw:=gw) (sw:=sw) (k:=0);rw [Ybp] at this;rw [this];rfl));rw [show 2+gw.length=1+gw.length+1 from by omega,this,h0]
 show 1312+(gw.length:Int)+0=_
 omega
theorem Zhw:∀ k:Nat,k<=sw.length->(S.ab b gw sw F size).adr (2+gw.length+k)=1312+gw.length+k
 | 0,_=>by rw [Ybp,Zrs hI];omega
 | k+1,h=>by
  have ih:=Zhw k (by omega);have:=Z6 hI (i:=2+gw.length+k) (Za6 (Zy1 (by omega)));rw [show 2+gw.length+(k+1)=2+gw.length+k+1 from by omega,this,ih]
  show 1312+(gw.length:Int)+k+1=_
  omega
theorem Zt:(S.ab b gw sw F size).lab S.kStatic=1312+gw.length/\(S.ab b gw sw F size).lab S.kCode=1312+gw.length+sw.length/\(S.ab b gw sw F size).lab S.kStub=1312+gw.length+sw.length/\(S.ab b gw sw F size).lab S.kMapped=1312+gw.length+sw.length+1 /\
 (S.ab b gw sw F size).adr (2+gw.length+sw.length+2)=1312+gw.length+sw.length/\(S.ab b gw sw F size).adr (2+gw.length+sw.length+4)=1312+gw.length+sw.length+1/\(S.ab b gw sw F size).adr (2+gw.length+sw.length+6)=1312+gw.length+sw.length+3:=by
 have a0:=Zhw hI sw.length (Yf _);have x0:(S.ab b gw sw F size).xs[2+gw.length+sw.length]?=some (S.bL S.kCode):=Za6 (Zo4 (k:=0));have x1:(S.ab b gw sw F size).xs[2+gw.length+sw.length+1]?=some (S.bL S.kStub):=Za6 Zo4;have x2:(S.ab b gw sw F size).xs[2+gw.length+sw.length+2]?=some S.bHalt:=Za6 Zo4;have x3:(S.ab b gw sw F size).xs[2+gw.length+sw.length+3]?=some (S.bL S.kMapped):=Za6 Zo4;have x4:(S.ab b gw sw F size).xs[2+gw.length+sw.length+4]?=some (S.bW 0):=Za6 Zo4;have x5:(S.ab b gw sw F size).xs[2+gw.length+sw.length+5]?=some S.bHalt:=Za6 Zo4;have xs:(S.ab b gw sw F size).xs[1+gw.length]?=some (S.bL S.kStatic):=Za6 (by have:=Zqc (gw:=gw) (sw:=sw) (k:=0);rw [Ybp] at this;rw [this];rfl);have hs1:=Zhv hI gw.length (Yf _);have l0:=Zel hI x0 rfl;have l1:=Zel hI x1 rfl;have l3:=Zel hI x3 rfl;have ls:=Zel hI xs rfl;obtain ⟨I,hIe⟩:=Yx (S.ab b gw sw F size);obtain ⟨M,hM⟩:=Yx (2+gw.length+sw.length);rw [<- hIe] at hI a0 x0 x1 x2 x3 x4 x5 hs1 l0 l1 l3 ls ⊢;rw [<- hM] at a0 x0 x1 x2 x3 x4 x5 l0 l1 l3 ⊢;have n0:I.adr (M+1)=I.adr M+0:=Z6 hI x0;have n1:I.adr (M+2)=I.adr (M+1)+0:=Z6 hI x1;have n2:I.adr (M+3)=I.adr (M+2)+1:=Z6 hI x2;have n3:I.adr (M+4)=I.adr (M+3)+0:=Z6 hI x3;have n4:I.adr (M+5)=I.adr (M+4)+1:=Z6 hI x4;have n5:I.adr (M+6)=I.adr (M+5)+1:=Z6 hI x5;have k0:I.lab S.kCode=I.adr M:=l0;have k1:I.lab S.kStub=I.adr (M+1):=l1;have k3:I.lab S.kMapped=I.adr (M+3):=l3;exact ⟨ls.trans hs1,by omega,by omega,by omega,by omega,by omega,by omega⟩
end
attribute [local irreducible] S.mid
section
variable {gw sw:List Int}{F:List Int}{size:Int}{b:Bool}(hI:(S.ab b gw sw F size).Ok)
include hI
theorem Zf5:(S.ab b gw sw F size).lab S.kMore=(S.ab b gw sw F size).adr (S.ab b gw sw F size).i1/\(S.ab b gw sw F size).lab S.kEnd=(S.ab b gw sw F size).lab S.kMore+8/\(S.ab b gw sw F size).adr (S.ab b gw sw F size).xs.length=(S.ab b gw sw F size).lab S.kEnd:=by
 obtain ⟨M,hM⟩:=Yx (S.ab b gw sw F size).i1;have hM2:M=gw.length+sw.length+8+S.mid.length:=hM;have x0:(S.ab b gw sw F size).xs[M]?=some (S.bL S.kMore):=by rw [hM2];exact Zo3 (i:=0) rfl
 have x1:(S.ab b gw sw F size).xs[M+1]?=some (S.bSp 8):=by rw [hM2];exact Zo3 (i:=1) rfl
 have x2:(S.ab b gw sw F size).xs[M+2]?=some (S.bL S.kEnd):=by rw [hM2];exact Zo3 (i:=2) rfl
 have hlen:(S.ab b gw sw F size).xs.length=M+3:=by
  rw [hM2]
  show (S.joined (S.wObjs gw sw)).length=_
  rw [Zcw,Yd,Yd,Zb9,show S.tItems.length=3 from rfl];omega
 rw [<- hM,hlen];clear hM hM2 hlen;obtain ⟨I,hIe⟩:=Yx (S.ab b gw sw F size);have l0:=Zel hI x0 rfl;have l2:=Zel hI x2 rfl;rw [<- hIe] at hI x0 x1 x2 l0 l2 ⊢;have n0:I.adr (M+1)=I.adr M+0:=Z6 hI x0;have n1:I.adr (M+1+1)=I.adr (M+1)+S.size (S.bSp 8) (I.F.getD (M+1) 0):=Z6 hI x1;have n2:I.adr (M+2+1)=I.adr (M+2)+0:=Z6 hI x2;have e8:S.size (S.bSp 8) (I.F.getD (M+1) 0)=8:=by
  unfold S.size S.bSp;simp
 rw [e8] at n1;have k0:I.lab S.kMore=I.adr M:=l0;have k2:I.lab S.kEnd=I.adr (M+2):=l2;have e2:M+1+1=M+2:=rfl;have e3:M+2+1=M+3:=rfl;rw [e2] at n1;rw [e3] at n2;exact ⟨k0,by omega,by omega⟩
end
end
section
open Go.RowKit
mutual
def ECell (w:World)(B b o:Nat):S.BE->Prop
 | .mk op n name kids=>w.cell? ⟨b,o,none⟩=some (.int .i64 op)/\w.cell? ⟨b,o+1,none⟩=some (.int .i64 n)/\w.cell? ⟨b,o+2,none⟩=some (.string name)/\name.size<=maxLen/\kids.length<=maxLen /\
  ∃ A c,w.cell? ⟨b,o+3,none⟩=some (.slice A kids.length c)/\(kids=[]\/∃ b' off,A=some ⟨b',off,none⟩/\b'<B/\EKids w B b' off kids)
def EKids (w:World)(B b o:Nat):List S.BE->Prop
 | []=>True
 | e::r=>ECell w B b o e/\EKids w B b (o+4) r
end
def EList (w:World)(B:Nat)(A:Option Addr)(l:List S.BE):Prop:=l=[]\/∃ b off,A=some ⟨b,off,none⟩/\b<B/\EKids w B b off l
def Z37 (w:World)(B:Nat)(e:S.BE)(v:Value):Prop :=
 ∃ A c,v=.agg #[.int .i64 e.op,.int .i64 e.n,.string e.name,.slice A e.kids.length c]/\e.name.size<=maxLen/\e.kids.length<=maxLen/\EList w B A e.kids
mutual
theorem ECell.below {w w':World}{B b o:Nat}(hb:Below B w w')(hlt:b<B):∀ {e:S.BE},ECell w B b o e->ECell w' B b o e
 | .mk op n name kids,h=>by
  rw [ECell] at h ⊢;obtain ⟨h1,h2,h3,h4,h5,A,c,h6,h7⟩:=h;refine ⟨(hb.cell (p:=⟨b,_,none⟩) hlt).trans h1,(hb.cell (p:=⟨b,_,none⟩) hlt).trans h2,(hb.cell (p:=⟨b,_,none⟩) hlt).trans h3,h4,h5,A,c,(hb.cell (p:=⟨b,_,none⟩) hlt).trans h6,?_⟩;rcases h7 with h7 | ⟨b',off,h8,h9,h10⟩
  ·exact .inl h7
  ·exact .inr ⟨b',off,h8,h9,EKids.below hb h9 h10⟩
theorem EKids.below {w w':World}{B b o:Nat}(hb:Below B w w')(hlt:b<B):∀ {l:List S.BE},EKids w B b o l->EKids w' B b o l
 | [],_=>by rw [EKids];trivial
 | e::r,h=>by
  rw [EKids] at h ⊢;exact ⟨ECell.below hb hlt h.1,EKids.below hb hlt h.2⟩
end
mutual
theorem ECell.more {w:World}{B B' b o:Nat}(hB:B<=B'):∀ {e:S.BE},ECell w B b o e->ECell w B' b o e
 | .mk op n name kids,h=>by
  rw [ECell] at h ⊢;obtain ⟨h1,h2,h3,h4,h5,A,c,h6,h7⟩:=h;refine ⟨h1,h2,h3,h4,h5,A,c,h6,?_⟩;rcases h7 with h7 | ⟨b',off,h8,h9,h10⟩
  ·exact .inl h7
  ·exact .inr ⟨b',off,h8,Y5 h9 hB,EKids.more hB h10⟩
theorem EKids.more {w:World}{B B' b o:Nat}(hB:B<=B'):∀ {l:List S.BE},EKids w B b o l->EKids w B' b o l
 | [],_=>by rw [EKids];trivial
 | e::r,h=>by
  rw [EKids] at h ⊢;exact ⟨ECell.more hB h.1,EKids.more hB h.2⟩
end
theorem EList.below {w w':World}{B:Nat}{A:Option Addr}{l:List S.BE}(h:EList w B A l)(hb:Below B w w'):EList w' B A l:=by
 rcases h with h | ⟨b,off,h1,h2,h3⟩
 ·exact .inl h
 ·exact .inr ⟨b,off,h1,h2,h3.below hb h2⟩
theorem EList.more {w:World}{B B':Nat}{A:Option Addr}{l:List S.BE}(h:EList w B A l)(hB:B<=B'):EList w B' A l:=by
 rcases h with h | ⟨b,off,h1,h2,h3⟩
 ·exact .inl h
 ·exact .inr ⟨b,off,h1,Y5 h2 hB,h3.more hB⟩
theorem EKids.at_ {w:World}{B b:Nat}:∀ {l:List S.BE} {o k:Nat} {e:S.BE},EKids w B b o l->l[k]?=some e->ECell w B b (o+k*4) e
 | [],o,k,e,_,h=>by simp at h
 | x::r,o,0,e,hk,h=>by
  rw [EKids] at hk;simp only [Ya1,Option.some.injEq] at h;subst h
  simpa using hk.1
 | x::r,o,k+1,e,hk,h=>by
  rw [EKids] at hk;have:=EKids.at_ hk.2 (k:=k) (by simpa using h);have e1:o+4+k*4=o+(k+1)*4:=by omega
  rw [e1] at this;exact this
theorem EList.at_ {w:World}{B:Nat}{A:Option Addr}{l:List S.BE}(h:EList w B A l){k:Nat}{e:S.BE}(hk:l[k]?=some e) :
 ∃ b off A' c',A=some ⟨b,off,none⟩/\b<B/\w.cell? ⟨b,off+k*4,none⟩=some (.int .i64 e.op)/\w.cell? ⟨b,off+k*4+1,none⟩=some (.int .i64 e.n)/\w.cell? ⟨b,off+k*4+2,none⟩=some (.string e.name) /\
  w.cell? ⟨b,off+k*4+3,none⟩=some (.slice A' e.kids.length c')/\e.name.size<=maxLen/\e.kids.length<=maxLen/\EList w B A' e.kids:=by
 rcases h with h | ⟨b,off,h1,h2,h3⟩
 ·subst h;simp at hk
 ·have h4:=h3.at_ hk
  obtain ⟨op,n,name,kids⟩:=e;rw [ECell] at h4;obtain ⟨q1,q2,q3,q4,q5,A',c',q6,q7⟩:=h4;exact ⟨b,off,A',c',h1,h2,q1,q2,q3,q6,q4,q5,q7⟩
mutual
def SCell (w:World)(B b o:Nat):S.BS->Prop
 | .mk op n name exprs regs body els=>w.cell? ⟨b,o,none⟩=some (.int .i64 op)/\w.cell? ⟨b,o+1,none⟩=some (.int .i64 n)/\w.cell? ⟨b,o+2,none⟩=some (.string name)/\name.size<=maxLen/\exprs.length<=maxLen/\regs.length<=maxLen/\body.length<=maxLen/\els.length<=maxLen /\
  (∃ A c,w.cell? ⟨b,o+3,none⟩=some (.slice A exprs.length c)/\EList w B A exprs)/\(∃ A c,w.cell? ⟨b,o+4,none⟩=some (.slice A regs.length c)/\Ints w B A regs) /\
  (∃ A c,w.cell? ⟨b,o+5,none⟩=some (.slice A body.length c)/\(body=[]\/∃ b' off,A=some ⟨b',off,none⟩/\b'<B/\SKids w B b' off body)) /\
  (∃ A c,w.cell? ⟨b,o+6,none⟩=some (.slice A els.length c)/\(els=[]\/∃ b' off,A=some ⟨b',off,none⟩/\b'<B/\SKids w B b' off els))
def SKids (w:World)(B b o:Nat):List S.BS->Prop
 | []=>True
 | s::r=>SCell w B b o s/\SKids w B b (o+7) r
end
def SList (w:World)(B:Nat)(A:Option Addr)(l:List S.BS):Prop:=l=[]\/∃ b off,A=some ⟨b,off,none⟩/\b<B/\SKids w B b off l
mutual
theorem SCell.below {w w':World}{B b o:Nat}(hb:Below B w w')(hlt:b<B):∀ {s:S.BS},SCell w B b o s->SCell w' B b o s
 | .mk op n name exprs regs body els,h=>by
  rw [SCell] at h ⊢;obtain ⟨h1,h2,h3,h4,h5,h6,h7,h8,⟨A1,c1,a1,a2⟩,⟨A2,c2,b1,b2⟩,⟨A3,c3,d1,d2⟩,⟨A4,c4,e1,e2⟩⟩:=h;refine ⟨(hb.cell (p:=⟨b,_,none⟩) hlt).trans h1,(hb.cell (p:=⟨b,_,none⟩) hlt).trans h2,(hb.cell (p:=⟨b,_,none⟩) hlt).trans h3,h4,h5,h6,h7,h8,⟨A1,c1,(hb.cell (p:=⟨b,_,none⟩) hlt).trans a1,a2.below hb⟩,
   ⟨A2,c2,(hb.cell (p:=⟨b,_,none⟩) hlt).trans b1,b2.below hb⟩,⟨A3,c3,(hb.cell (p:=⟨b,_,none⟩) hlt).trans d1,?_⟩,⟨A4,c4,(hb.cell (p:=⟨b,_,none⟩) hlt).trans e1,?_⟩⟩
  ·rcases d2 with d2 | ⟨b',off,q1,q2,q3⟩
   ·exact .inl d2
   ·exact .inr ⟨b',off,q1,q2,SKids.below hb q2 q3⟩
  ·rcases e2 with e2 | ⟨b',off,q1,q2,q3⟩
   ·exact .inl e2
   ·exact .inr ⟨b',off,q1,q2,SKids.below hb q2 q3⟩
theorem SKids.below {w w':World}{B b o:Nat}(hb:Below B w w')(hlt:b<B):∀ {l:List S.BS},SKids w B b o l->SKids w' B b o l
 | [],_=>by rw [SKids];trivial
 | e::r,h=>by
  rw [SKids] at h ⊢;exact ⟨SCell.below hb hlt h.1,SKids.below hb hlt h.2⟩
end
mutual
theorem SCell.more {w:World}{B B' b o:Nat}(hB:B<=B'):∀ {s:S.BS},SCell w B b o s->SCell w B' b o s
 | .mk op n name exprs regs body els,h=>by
  rw [SCell] at h ⊢;obtain ⟨h1,h2,h3,h4,h5,h6,h7,h8,⟨A1,c1,a1,a2⟩,⟨A2,c2,b1,b2⟩,⟨A3,c3,d1,d2⟩,⟨A4,c4,e1,e2⟩⟩:=h;refine ⟨h1,h2,h3,h4,h5,h6,h7,h8,⟨A1,c1,a1,a2.more hB⟩,⟨A2,c2,b1,b2.more hB⟩,⟨A3,c3,d1,?_⟩,⟨A4,c4,e1,?_⟩⟩
  ·rcases d2 with d2 | ⟨b',off,q1,q2,q3⟩
   ·exact .inl d2
   ·exact .inr ⟨b',off,q1,Y5 q2 hB,SKids.more hB q3⟩
  ·rcases e2 with e2 | ⟨b',off,q1,q2,q3⟩
   ·exact .inl e2
   ·exact .inr ⟨b',off,q1,Y5 q2 hB,SKids.more hB q3⟩
theorem SKids.more {w:World}{B B' b o:Nat}(hB:B<=B'):∀ {l:List S.BS},SKids w B b o l->SKids w B' b o l
 | [],_=>by rw [SKids];trivial
 | e::r,h=>by
  rw [SKids] at h ⊢;exact ⟨SCell.more hB h.1,SKids.more hB h.2⟩
end
theorem SList.below {w w':World}{B:Nat}{A:Option Addr}{l:List S.BS}(h:SList w B A l)(hb:Below B w w'):SList w' B A l:=by
 rcases h with h | ⟨b,off,h1,h2,h3⟩
 ·exact .inl h
 ·exact .inr ⟨b,off,h1,h2,h3.below hb h2⟩
theorem SList.more {w:World}{B B':Nat}{A:Option Addr}{l:List S.BS}(h:SList w B A l)(hB:B<=B'):SList w B' A l:=by
 rcases h with h | ⟨b,off,h1,h2,h3⟩
 ·exact .inl h
 ·exact .inr ⟨b,off,h1,Y5 h2 hB,h3.more hB⟩
theorem SKids.at_ {w:World}{B b:Nat}:∀ {l:List S.BS} {o k:Nat} {s:S.BS},SKids w B b o l->l[k]?=some s->SCell w B b (o+k*7) s
 | [],o,k,e,_,h=>by simp at h
 | x::r,o,0,e,hk,h=>by
  rw [SKids] at hk;simp only [Ya1,Option.some.injEq] at h;subst h
  simpa using hk.1
 | x::r,o,k+1,e,hk,h=>by
  rw [SKids] at hk;have:=SKids.at_ hk.2 (k:=k) (by simpa using h);have e1:o+7+k*7=o+(k+1)*7:=by omega
  rw [e1] at this;exact this
structure SPart (w:World)(B:Nat)(s:S.BS)(A1 A2 A3 A4:Option Addr):Prop where
 name:s.name.size<=maxLen
 l1:s.exprs.length<=maxLen
 l2:s.regs.length<=maxLen
 l3:s.body.length<=maxLen
 l4:s.els.length<=maxLen
 exprs:EList w B A1 s.exprs
 regs:Ints w B A2 s.regs
 body:SList w B A3 s.body
 els:SList w B A4 s.els
theorem SPart.below {w w':World}{B:Nat}{s:S.BS}{A1 A2 A3 A4:Option Addr}(h:SPart w B s A1 A2 A3 A4)(hb:Below B w w'):SPart w' B s A1 A2 A3 A4 :=
 ⟨h.name,h.l1,h.l2,h.l3,h.l4,h.exprs.below hb,h.regs.below hb,h.body.below hb,h.els.below hb⟩
theorem SPart.more {w:World}{B B':Nat}{s:S.BS}{A1 A2 A3 A4:Option Addr}(h:SPart w B s A1 A2 A3 A4)(hB:B<=B'):SPart w B' s A1 A2 A3 A4 :=
 ⟨h.name,h.l1,h.l2,h.l3,h.l4,h.exprs.more hB,h.regs.more hB,h.body.more hB,h.els.more hB⟩
def sVal (s:S.BS)(A1 A2 A3 A4:Option Addr)(c1 c2 c3 c4:Nat):List Value :=
 [.int .i64 s.op,.int .i64 s.n,.string s.name,.slice A1 s.exprs.length c1,.slice A2 s.regs.length c2,.slice A3 s.body.length c3,.slice A4 s.els.length c4]
theorem SList.at_ {w:World}{B:Nat}{A:Option Addr}{l:List S.BS}(h:SList w B A l){k:Nat}{s:S.BS}(hk:l[k]?=some s) :
 ∃ b off A1 c1 A2 c2 A3 c3 A4 c4,A=some ⟨b,off,none⟩/\b<B/\w.cell? ⟨b,off+k*7,none⟩=some (.int .i64 s.op)/\w.cell? ⟨b,off+k*7+1,none⟩=some (.int .i64 s.n)/\w.cell? ⟨b,off+k*7+2,none⟩=some (.string s.name) /\
  w.cell? ⟨b,off+k*7+3,none⟩=some (.slice A1 s.exprs.length c1)/\w.cell? ⟨b,off+k*7+4,none⟩=some (.slice A2 s.regs.length c2)/\w.cell? ⟨b,off+k*7+5,none⟩=some (.slice A3 s.body.length c3) /\
  w.cell? ⟨b,off+k*7+6,none⟩=some (.slice A4 s.els.length c4)/\SPart w B s A1 A2 A3 A4:=by
 rcases h with h | ⟨b,off,h1,h2,h3⟩
 ·subst h;simp at hk
 ·have h4:=h3.at_ hk
  obtain ⟨op,n,name,exprs,regs,body,els⟩:=s;rw [SCell] at h4;obtain ⟨q1,q2,q3,q4,q5,q6,q7,q8,⟨A1,c1,a1,a2⟩,⟨A2,c2,b1,b2⟩,⟨A3,c3,d1,d2⟩,⟨A4,c4,e1,e2⟩⟩:=h4;exact ⟨b,off,A1,c1,A2,c2,A3,c3,A4,c4,h1,h2,q1,q2,q3,a1,b1,d1,e1,q4,q5,q6,q7,q8,a2,b2,d2,e2⟩
mutual
def szE:S.BE->Nat
 | .mk _ _ _ kids=>1+Zfd kids
def Zfd:List S.BE->Nat
 | []=>0
 | e::r=>szE e+Zfd r
end
theorem Zlc:∀ {l:List S.BE} {e:S.BE},e∈l->szE e<=Zfd l
 | x::r,e,h=>by
  rw [Zfd];rcases Yz.1 h with rfl | h
  ·omega
  ·have:=Zlc h;omega
theorem Zdu (e:S.BE):szE e=1+Zfd e.kids:=by
 obtain ⟨op,n,name,kids⟩:=e;rw [szE];rfl
mutual
def szS:S.BS->Nat
 | .mk _ _ _ exprs _ body els=>1+Zfd exprs+Zhx body+Zhx els
def Zhx:List S.BS->Nat
 | []=>0
 | s::r=>szS s+Zhx r
end
theorem Zo5:∀ {l:List S.BS} {s:S.BS},s∈l->szS s<=Zhx l
 | x::r,e,h=>by
  rw [Zhx];rcases Yz.1 h with rfl | h
  ·omega
  ·have:=Zo5 h;omega
theorem Zio (s:S.BS):szS s=1+Zfd s.exprs+Zhx s.body+Zhx s.els:=by
 obtain ⟨op,n,name,exprs,regs,body,els⟩:=s;rw [szS];rfl
end
end Go.Proofs.YtgdjocajlndonaaGreatDoor
