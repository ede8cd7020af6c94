/- Parts. -/
import Derived.Test.YtcjhmiijbojgeaaGreatDoorZExtC
set_option linter.all false
open List renaming length_append->Yd,mem_cons->Yr,not_mem_nil->Yv,mem_append->Yag,all_eq_true->Ya2,mem_map->Yb3
open Bool renaming and_eq_true->Yq
namespace Go.Proofs.YtcjhmiijbojgeaaGreatDoor
open S Go.RowKit
namespace S
def midV:List Item:=joined (objs26++objs28++[oMainV])
def wObjsV (gw sw:List Int):List Obj:=oHead gw sw::(objs26++objs28++[oMainV])++[oTail]
def wTellsV:List ByteArray:=hTells++tells midV++Z4c
def midBV:Bool:=nodupB wTellsV && subB (names midV) wTellsV && midV.all (λ x=>decide (chkItem x=0)) && midV.all (λ x=>decide (0<=x.word/\x.word<=4294967295)) && decide (bulk midV<=14000)
end S
theorem Zi7:S.midBV=true:=by kernel_rfl
theorem Zlx:S.wTellsV.Nodup:=Zk5 (by have:=Zi7;unfold S.midBV at this;simp only[Yq] at this;exact this.1.1.1.1)
theorem Zsk:∀s∈S.names S.midV,s∈S.wTellsV:=Z4d (by have:=Zi7;unfold S.midBV at this;simp only[Yq] at this;exact this.1.1.1.2)
theorem Zzf:allChk S.midV:=λ x a=>by
 have:=Zi7;unfold S.midBV at this;simp only[Yq] at this;exact of_decide_eq_true (Ya2.1 this.1.1.2 x a)
theorem Zsl:∀x∈S.midV,0<=x.word/\x.word<=4294967295:=λ x a=>by
 have:=Zi7;unfold S.midBV at this;simp only[Yq] at this;exact of_decide_eq_true (Ya2.1 this.1.2 x a)
theorem Zwk:S.bulk S.midV<=14000:=by
 have:=Zi7;unfold S.midBV at this;simp only[Yq] at this;exact of_decide_eq_true this.2
theorem Zbl (gw sw:List Int):S.joined (S.wObjsV gw sw)=hItems gw sw++(S.midV++tItems):=by
 have c:S.joined [S.oHead gw sw]=hItems gw sw:=by
  have e:S.joined [S.oHead gw sw]=(hItems gw sw).map (ownItem kHead):=by simp[S.joined,itemsOf,S.oHead]
  rw[e];have:∀x∈hItems gw sw,ownItem kHead x=x:=by
   intro x a;unfold hItems at a;simp only[Yr,Yag,Yb3,Yv,or_false] at a;rcases a with rfl|⟨w,_,rfl⟩|rfl|⟨w,_,rfl⟩|rfl|rfl|rfl|rfl|rfl|rfl <;> rfl
  exact(List.map_congr_left this).trans (List.map_id _)
 have b:S.joined [S.oTail]=tItems:=rfl;have e:S.wObjsV gw sw=[S.oHead gw sw]++((S.objs26++S.objs28++[S.oMainV])++[S.oTail]):=by simp[S.wObjsV]
 rw[e,Zfg,Zfg,c,b];rfl
def S.wImgV (b:Bool)(gw sw:List Int)(F:List Int)(size:Int):Img:=⟨S.joined (S.wObjsV gw sw),F,size,if b=true then 2+gw.length+sw.length else gw.length+sw.length+8,gw.length+sw.length+8+S.midV.length,1056,1312⟩
theorem Zqp (gw sw:List Int)(hg:∀x∈gw,0<=x/\x<=4294967295)(c:∀x∈sw,0<=x/\x<=4294967295):∀x∈S.joined (S.wObjsV gw sw),0<=x.word/\x.word<=4294967295:=by
 intro x b;rw[Zbl] at b;rcases Yag.1 b with h|h
 .unfold hItems at h
  simp only[Yr,Yag,Yb3,Yv,or_false] at h;rcases h with rfl|⟨w,a,rfl⟩|rfl|⟨w,a,rfl⟩|rfl|rfl|rfl|rfl|rfl|rfl
  .decide
  .exact hg w a
  .decide
  .exact c w a
  all_goals decide
 .rcases Yag.1 h with h|h
  .exact Zsl x h
  .unfold tItems at h
   simp only[Yr,Yv,or_false] at h;rcases h with rfl|rfl|rfl <;> decide
theorem Z57 {gw sw:List Int}{e:Int}{F:List Int}{size:Int}(h:FormsRes (S.joined (S.wObjsV gw sw)) 0 e F)(hg:∀x∈gw,0<=x/\x<=4294967295)(w:∀x∈sw,0<=x/\x<=4294967295)(y:gw.length<=100)(t:sw.length<=100)
 (hsz:e=0->addr (S.joined (S.wObjsV gw sw)) F 0 (S.joined (S.wObjsV gw sw)).length<size) (f:size<=335544320):e=0/\(∀b,(wImgV b gw sw F size).Ok)/\addr (S.joined (S.wObjsV gw sw)) F 0 (S.joined (S.wObjsV gw sw)).length<=18000:=by
 obtain⟨v,s,u,r⟩:=Zgu gw sw;have a:=Zbl gw sw;have j:=Zqp gw sw hg w;have m:S.tells (S.joined (S.wObjsV gw sw))=S.wTellsV:=by
  rw[a,Zax,Zax,v,<- List.append_assoc];rfl
 have k2:S.names (S.joined (S.wObjsV gw sw))=S.names S.midV:=by
  rw[a,Zcj,Zcj,s,List.nil_append];have:S.names tItems=[]:=by decide
  rw[this,List.append_nil]
 have p:allChk (S.joined (S.wObjsV gw sw)):=by
  rw[a];exact Zbo r (Zbo Zzf (Z1 (Zj0 _) (Z1 (by simp[S.chkItem,bSp]) (Zjz (Zj0 _)))))
 have k4:S.bulk (S.joined (S.wObjsV gw sw))<=18000:=by
  rw[a,Zb6,Zb6,u];have:S.bulk tItems=16:=by decide
  have:=Zwk;omega
 obtain⟨o,hF,ha⟩:=Z45 h p (by rw[m];exact Zlx) (by rw[k2,m];exact Zsk) (by omega);subst o;have d:=Zbv gw sw;have q:(S.joined (S.wObjsV gw sw)).length=gw.length+sw.length+8+S.midV.length+3:=by
  rw[a,Yd,Yd,d,show tItems.length=3 from rfl];omega
 have c:=hsz rfl;have g:1312<=addr (S.joined (S.wObjsV gw sw)) F 0 (2+gw.length+sw.length):=by
  refine Int.le_trans ?_ (Zco hF j (i:=1) (by omega));have l:(S.joined (S.wObjsV gw sw))[0]?=some (bSp 1312):=by rw[a];rfl
  have:addr (S.joined (S.wObjsV gw sw)) F 0 1=0+sizeAt (S.joined (S.wObjsV gw sw)) F 0:=rfl;rw[this];have hsz:sizeAt (S.joined (S.wObjsV gw sw)) F 0=1312:=by
   unfold sizeAt;rw[l]
   show S.size (bSp 1312) (F.getD 0 0)=1312
   unfold S.size bSp;simp
  rw[hsz]
  decide
 have k:=Zco hF j (base:=0) (i:=2+gw.length+sw.length) (n:=(S.joined (S.wObjsV gw sw)).length) (by omega);refine⟨rfl,λ b=>⟨h,j,by show(if b=true then 2+gw.length+sw.length else gw.length+sw.length+8)<=gw.length+sw.length+8+S.midV.length;split <;> omega,by show gw.length+sw.length+8+S.midV.length<=(S.joined (S.wObjsV gw sw)).length;omega,c,f,by show(0:Int)<=1056;decide,by show(1056:Int)<=1312;decide,by show(1312:Int)<=size;omega,.inl ?_⟩,by omega⟩
 show 1312<=addr (S.joined (S.wObjsV gw sw)) F 0 (if b=true then 2+gw.length+sw.length else gw.length+sw.length+8)
 split
 .exact g
 .exact Int.le_trans g (Zco hF j (by omega))
