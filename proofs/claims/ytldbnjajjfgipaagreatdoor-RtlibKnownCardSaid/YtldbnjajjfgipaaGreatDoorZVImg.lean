/- Parts. -/
import Derived.Test.YtldbnjajjfgipaaGreatDoorZExtC
import Derived.Test.YtldbnjajjfgipaaGreatDoorZVSpec
set_option linter.all false
open List renaming length_append->Yc,mem_cons->Yu,not_mem_nil->Yy,mem_append->Yaq,all_eq_true->Yau,mem_map->Yby
open Bool renaming and_eq_true->Yq
namespace Go.Proofs.YtldbnjajjfgipaaGreatDoor
open S Go.RowKit
namespace S
def midV:List Item:=joined (objs26++objs28++[oMainV])
def wObjsV (gw sw:List Int):List Obj:=oHead gw sw::(objs26++objs28++[oMainV])++[oTail]
def wTellsV:List ByteArray:=hTells++tells midV++Z0h
def midBV:Bool:=nodupB wTellsV && subB (names midV) wTellsV && midV.all (λ x=>decide (chkItem x=0)) && midV.all (λ x=>decide (0<=x.word/\x.word<=4294967295)) && decide (bulk midV<=14000)
end S
theorem Zhx:S.midBV=true:=by kernel_rfl
theorem Zkj:S.wTellsV.Nodup:=Zjv (by have:=Zhx;unfold S.midBV at this;simp only[Yq] at this;exact this.1.1.1.1)
theorem Zqa:∀s∈S.names S.midV,s∈S.wTellsV:=Z0i (by have:=Zhx;unfold S.midBV at this;simp only[Yq] at this;exact this.1.1.1.2)
theorem Zwi:allChk S.midV:=λ x hx=>by
 have:=Zhx;unfold S.midBV at this;simp only[Yq] at this;exact of_decide_eq_true (Yau.1 this.1.1.2 x hx)
theorem Zqb:∀x∈S.midV,0<=x.word/\x.word<=4294967295:=λ x hx=>by
 have:=Zhx;unfold S.midBV at this;simp only[Yq] at this;exact of_decide_eq_true (Yau.1 this.1.2 x hx)
theorem Ztu:S.bulk S.midV<=14000:=by
 have:=Zhx;unfold S.midBV at this;simp only[Yq] at this;exact of_decide_eq_true this.2
theorem Za5 (gw sw:List Int):S.joined (S.wObjsV gw sw)=hItems gw sw++(S.midV++tItems):=by
 have hh:S.joined [S.oHead gw sw]=hItems gw sw:=by
  have e:S.joined [S.oHead gw sw]=(hItems gw sw).map (ownItem kHead):=by simp[S.joined,itemsOf,S.oHead]
  rw[e];have:∀x∈hItems gw sw,ownItem kHead x=x:=by
   intro x hx;unfold hItems at hx;simp only[Yu,Yaq,Yby,Yy,or_false] at hx;rcases hx with rfl|⟨w,_,rfl⟩|rfl|⟨w,_,rfl⟩|rfl|rfl|rfl|rfl|rfl|rfl <;> rfl
  exact(List.map_congr_left this).trans (List.map_id _)
 have ht:S.joined [S.oTail]=tItems:=rfl;have e:S.wObjsV gw sw=[S.oHead gw sw]++((S.objs26++S.objs28++[S.oMainV])++[S.oTail]):=by simp[S.wObjsV]
 rw[e,Zem,Zem,hh,ht];rfl
def S.aa (b:Bool)(gw sw:List Int)(F:List Int)(size:Int):Img:=⟨S.joined (S.wObjsV gw sw),F,size,if b=true then 2+gw.length+sw.length else gw.length+sw.length+8,gw.length+sw.length+8+S.midV.length,1056,1312⟩
theorem Zoq (gw sw:List Int)(hg:∀x∈gw,0<=x/\x<=4294967295)(hs:∀x∈sw,0<=x/\x<=4294967295):∀x∈S.joined (S.wObjsV gw sw),0<=x.word/\x.word<=4294967295:=by
 intro x hx;rw[Za5] at hx;rcases Yaq.1 hx with h|h
 .unfold hItems at h
  simp only[Yu,Yaq,Yby,Yy,or_false] at h;rcases h with rfl|⟨w,hw,rfl⟩|rfl|⟨w,hw,rfl⟩|rfl|rfl|rfl|rfl|rfl|rfl
  .decide
  .exact hg w hw
  .decide
  .exact hs w hw
  all_goals decide
 .rcases Yaq.1 h with h|h
  .exact Zqb x h
  .unfold tItems at h
   simp only[Yu,Yy,or_false] at h;rcases h with rfl|rfl|rfl <;> decide
theorem Z1u {gw sw:List Int}{e:Int}{F:List Int}{size:Int}(h:FormsRes (S.joined (S.wObjsV gw sw)) 0 e F)(hg:∀x∈gw,0<=x/\x<=4294967295)(hs:∀x∈sw,0<=x/\x<=4294967295)(hgl:gw.length<=100)(hsl:sw.length<=100)
 (hsz:e=0->addr (S.joined (S.wObjsV gw sw)) F 0 (S.joined (S.wObjsV gw sw)).length<size) (hsz2:size<=335544320):e=0/\(∀b,(aa b gw sw F size).Ok)/\addr (S.joined (S.wObjsV gw sw)) F 0 (S.joined (S.wObjsV gw sw)).length<=18000:=by
 obtain⟨h1,h2,h3,h4⟩:=Zfq gw sw;have hx:=Za5 gw sw;have hw:=Zoq gw sw hg hs;have k1:S.tells (S.joined (S.wObjsV gw sw))=S.wTellsV:=by
  rw[hx,Zaq,Zaq,h1,<- List.append_assoc];rfl
 have k2:S.names (S.joined (S.wObjsV gw sw))=S.names S.midV:=by
  rw[hx,Zbt,Zbt,h2,List.nil_append];have:S.names tItems=[]:=by decide
  rw[this,List.append_nil]
 have k3:allChk (S.joined (S.wObjsV gw sw)):=by
  rw[hx];exact Zbc h4 (Zbc Zwi (Z1 (Zjf _) (Z1 (by simp[S.chkItem,bSp]) (Zje (Zjf _)))))
 have k4:S.bulk (S.joined (S.wObjsV gw sw))<=18000:=by
  rw[hx,Zbq,Zbq,h3];have:S.bulk tItems=16:=by decide
  have:=Ztu;omega
 obtain⟨e0,hF,ha⟩:=Z1i h k3 (by rw[k1];exact Zkj) (by rw[k2,k1];exact Zqa) (by omega);subst e0;have hlen:=Zbe gw sw;have hxl:(S.joined (S.wObjsV gw sw)).length=gw.length+sw.length+8+S.midV.length+3:=by
  rw[hx,Yc,Yc,hlen,show tItems.length=3 from rfl];omega
 have hsz':=hsz rfl;have ha0:1312<=addr (S.joined (S.wObjsV gw sw)) F 0 (2+gw.length+sw.length):=by
  refine Int.le_trans ?_ (Zby hF hw (i:=1) (by omega));have hx0:(S.joined (S.wObjsV gw sw))[0]?=some (bSp 1312):=by rw[hx];rfl
  have:addr (S.joined (S.wObjsV gw sw)) F 0 1=0+sizeAt (S.joined (S.wObjsV gw sw)) F 0:=rfl;rw[this];have hsz:sizeAt (S.joined (S.wObjsV gw sw)) F 0=1312:=by
   unfold sizeAt;rw[hx0]
   show S.size (bSp 1312) (F.getD 0 0)=1312
   unfold S.size bSp;simp
  rw[hsz]
  decide
 have hatop:=Zby hF hw (base:=0) (i:=2+gw.length+sw.length) (n:=(S.joined (S.wObjsV gw sw)).length) (by omega);refine⟨rfl,λ b=>⟨h,hw,by show(if b=true then 2+gw.length+sw.length else gw.length+sw.length+8)<=gw.length+sw.length+8+S.midV.length;split <;> omega,by show gw.length+sw.length+8+S.midV.length<=(S.joined (S.wObjsV gw sw)).length;omega,hsz',hsz2,by show(0:Int)<=1056;decide,by show(1056:Int)<=1312;decide,by show(1312:Int)<=size;omega,.inl ?_⟩,by omega⟩
 show 1312<=addr (S.joined (S.wObjsV gw sw)) F 0 (if b=true then 2+gw.length+sw.length else gw.length+sw.length+8)
 split
 .exact ha0
 .exact Int.le_trans ha0 (Zby hF hw (by omega))
