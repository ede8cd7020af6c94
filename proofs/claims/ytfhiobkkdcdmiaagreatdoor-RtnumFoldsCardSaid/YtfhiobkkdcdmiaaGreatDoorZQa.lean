/- Parts. -/
import Derived.Test.YtfhiobkkdcdmiaaGreatDoorZGRun
import Derived.Deep.MidRow
import Derived.Deep.LoopGhost
set_option linter.all false
open List renaming length_append->Yd,getD_eq_getElem?_getD->Ye,getElem?_eq_some_iff->Yg,length_cons->Yi,getElem?_append_left->Ym,getElem?_append_right->Yo,mem_cons_self->Yu,mem_cons_of_mem->Yw,mem_cons->Yz,mem_append->Y0,mem_singleton->Yab,length_map->Yac,not_mem_nil->Yap,getElem?_cons_zero->Ya0,mem_append_left->Ya5,all_eq_true->Ya9,flatMap_cons->Ybb,getElem?_set_ne->Ybc,mem_append_right->Ybh,any_eq_true->Ybx
open Bool renaming and_eq_true->Yt,or_eq_true->Ycc
open Nat renaming zero_add->Y9,add_zero->Ybd
open Go.Region renaming waitsFor->Ybp,binds->Yb1
namespace Go.Proofs.YtfhiobkkdcdmiaaGreatDoor
open Go.RowKit
section
namespace S
def kLow:ByteArray:=⟨#[108,111,119]⟩
def kCall:ByteArray:=⟨#[99,97,108,108]⟩
def lowItems:List Item:=[bJ 0 kStart,bSp 1311,bL kStatic,bL kMore,bL kCode]
def callItems (op:Int):List Item:=[bL kF0,bHalt,bL kCall,bJ 31 (kRt op),bW 0,bL kAfter,bHalt,bL kEnd]
def oLow:Obj:=⟨kLow,lowItems⟩
def oCall (op:Int):Obj:=⟨kCall,callItems op⟩
def nMidO:List Obj:=objs26++objs27
def nMid:List Item:=joined nMidO
def nObjs (op:Int):List Obj:=oLow::(nMidO++[oCall op])
def nTells:List ByteArray:=[kStatic,kMore,kCode]++tells nMid++[kF0,kCall,kAfter,kEnd]
def nB:Bool:=nodupB nTells && subB (names nMid) nTells && nMid.all (λ x=>decide (chkItem x=0)) && nMid.all (λ x=>decide (0<=x.word/\x.word<=4294967295)) && decide (bulk nMid<=20000) &&
 ([8,9,10,11,12,13,14]:List Int).all (λ op=>(tells nMid).any λ t=>decide (t=kRt op))
def isOp (op:Int):Prop:=8<=op/\op<=14
end S
theorem Z6j:S.nB=true:=by kernel_rfl
theorem nB_parts:S.nTells.Nodup/\(∀s∈S.names S.nMid,s∈S.nTells)/\S.allChk S.nMid/\(∀x∈S.nMid,0<=x.word/\x.word<=4294967295)/\S.bulk S.nMid<=20000/\∀op,S.isOp op->S.kRt op∈S.nTells:=by
 have h:=Z6j;unfold S.nB at h;simp only[Yt] at h;obtain⟨⟨⟨⟨⟨h1,h2⟩,h3⟩,h4⟩,h5⟩,h6⟩:=h;refine⟨Zln h1,Zz1 h2,λ x hx=>of_decide_eq_true (Ya9.1 h3 x hx),λ x hx=>of_decide_eq_true (Ya9.1 h4 x hx),of_decide_eq_true h5,λ op hop=>?_⟩;have hm:op∈([8,9,10,11,12,13,14]:List Int):=by
  obtain⟨a,b⟩:=hop;have:op=8\/op=9\/op=10\/op=11\/op=12\/op=13\/op=14:=by omega
  rcases this with rfl|rfl|rfl|rfl|rfl|rfl|rfl <;> simp
 obtain⟨t,ht,e⟩:=Ybx.1 (Ya9.1 h6 op hm);rw[<- of_decide_eq_true e];exact Ya5 _ (Ybh _ ht)
theorem Zy7 (op:Int)(s:ByteArray):S.owned s (S.kRt op)=S.kRt op:=Zeo s (by
 have h1:(S.kRt op).size≠0:=by
  show([114,116]++S.itoa op).toArray.size≠0
  simp
 have h2:S.dotted (S.kRt op)=false:=by
  show(([114,116]++S.itoa op).toArray.toList.head?==some 46)=false
  simp
 unfold S.labB;rw[decide_eq_true h1,h2];rfl)
theorem Zcu (op:Int):S.joined (S.nObjs op)=S.lowItems++(S.nMid++S.callItems op):=by
 have e:S.nObjs op=[S.oLow]++(S.nMidO++[S.oCall op]):=rfl;have h1:S.joined [S.oLow]=S.lowItems:=rfl;have h2:S.joined [S.oCall op]=S.callItems op:=by
  have:S.joined [S.oCall op]=(S.callItems op).map (S.ownItem S.kCall):=by simp[S.joined,S.itemsOf,S.oCall]
  rw[this]
  show [S.bL S.kF0,S.bHalt,S.bL S.kCall,S.ownItem S.kCall (S.bJ 31 (S.kRt op)),S.bW 0,S.bL S.kAfter,S.bHalt,S.bL S.kEnd]=_
  have:S.ownItem S.kCall (S.bJ 31 (S.kRt op))=S.bJ 31 (S.kRt op):=by
   show(⟨4,⟨0,31,0,0,0⟩,S.owned S.kCall (S.kRt op),0⟩:S.Item)=_
   rw[Zy7];rfl
  rw[this];rfl
 rw[e,Zf1,Zf1,h1,h2];rfl
theorem Z7m {α:Type}(A B C:List α)(k:Nat):(A++(B++C))[A.length+B.length+k]?=C[k]?:=by
 rw[Yo (by omega),Yo (by omega)]
 congr 1
 omega
attribute [local irreducible] S.nMid
theorem Zhi (op:Int)(k:Nat):(S.joined (S.nObjs op))[5+S.nMid.length+k]?=(S.callItems op)[k]?:=by
 have h:=Z7m S.lowItems S.nMid (S.callItems op) k;have e:S.lowItems.length=5:=rfl;rw[e] at h;rw[Zcu];exact h
theorem Zy8 (op:Int):S.allChk (S.callItems op):=by
 have hh:S.chkItem S.bHalt=0:=Z4d (Zu5 (.inr rfl) (by decide));exact Z7 (Zip _) (Z7 hh (Z7 (Zip _) (Z7 (Zz2 _ (by decide)) (Z7 (by simp[S.chkItem,S.bW]) (Z7 (Zip _) (Z7 hh (Zkn (Zip _))))))))
theorem Z20:S.allChk S.lowItems:=Z7 (Zz2 _ (by decide)) (Z7 (by simp[S.chkItem,S.bSp]) (Z7 (Zip _) (Z7 (Zip _) (Zkn (Zip _)))))
def S.aa (b:Bool)(op:Int)(F:List Int)(size:Int):S.Img:=⟨S.joined (S.nObjs op),F,size,5,if b=true then(S.joined (S.nObjs op)).length else 5+S.nMid.length,1056,1312⟩
theorem Zol (op:Int):(S.joined (S.nObjs op)).length=5+S.nMid.length+8:=by
 rw[Zcu,Yd,Yd,show S.lowItems.length=5 from rfl,show(S.callItems op).length=8 from rfl];omega
theorem Zwu (op:Int):∀x∈S.joined (S.nObjs op),0<=x.word/\x.word<=4294967295:=by
 intro x hx;rw[Zcu] at hx;rcases Y0.1 hx with h|h
 .unfold S.lowItems at h
  simp only[Yz,Yap,or_false] at h;rcases h with rfl|rfl|rfl|rfl|rfl <;> decide
 .rcases Y0.1 h with h|h
  .exact nB_parts.2.2.2.1 x h
  .unfold S.callItems at h
   simp only[Yz,Yap,or_false] at h;rcases h with rfl|rfl|rfl|rfl|rfl|rfl|rfl|rfl
   all_goals (show(0:Int)<=0/\(0:Int)<=4294967295;decide)
theorem Zrg {xs:List S.Item}{F:List Int}(h:S.FormsRes xs 0 0 F)(hc:S.allChk xs)(hw:∀x∈xs,0<=x.word/\x.word<=4294967295)(hb:S.addr xs F 0 xs.length<=1000000){i:Nat}{x:S.Item}(hx:xs[i]?=some x)(hk:x.kind=4):F.getD i 0=1:=by
 rcases h with⟨h,_⟩|⟨_,h,_⟩|⟨hck,_,hinv,hst,_⟩
 .exact absurd rfl h
 .omega
 obtain⟨G,hG⟩:∃G,G=(List.range xs.length).map λ j:Nat=>(match xs[j]? with|some y=>if y.kind=4 then(1:Int) else F.getD j 0|none=>0):=⟨_,rfl⟩
 have hGl:G.length=xs.length:=by rw[hG];simp
 have hGd:∀(j:Nat)(y:S.Item),xs[j]?=some y->G.getD j 0=if y.kind=4 then 1 else F.getD j 0:=λ j y hy=>by
  have hj:=(Yg.1 hy).1;rw[hG,Zcx _ _ _ hj,hy]
 have hFok:=hst.1;have hGok:S.FormOk xs G:=⟨hGl,λ j y hy=>by
  obtain⟨q1,q2,q3⟩:=hFok.2 j y hy;rw[hGd j y hy];by_cases c:y.kind=4
  .rw[if_pos c]
   exact⟨λ e=>by omega,λ _=>by decide,λ _ e=>absurd c e⟩
  .rw[if_neg c]
   exact⟨q1,λ e=>absurd e c,q3⟩⟩
 have hle:∀j,G.getD j 0<=F.getD j 0:=λ j=>by
  cases hy:xs[j]? with
  | none =>
   rw[List.getElem?_eq_none_iff] at hy;rw[Ye,List.getElem?_eq_none (by omega),Ye,List.getElem?_eq_none (by rw[hFok.1];exact hy)];exact Int.le_refl _
  | some y =>
   rw[hGd j y hy]
   split
   .rename_i c;exact((hFok.2 j y hy).2.1 c).1
   .exact Int.le_refl _
 have hdist:∀p d:Nat,S.addr xs G 0 (p+d)-S.addr xs G 0 p<=S.addr xs F 0 (p+d)-S.addr xs F 0 p:=λ p d=>Zfo hGok hFok hle p d
 have hup:∀p d:Nat,S.addr xs G 0 p<=S.addr xs G 0 (p+d):=λ p d=>Zgn hGok hw p d
 have hG0:S.addr xs G 0 xs.length<=1000000:=by
  have:=hdist 0 xs.length;rw[Y9] at this;have e1:S.addr xs G 0 0=0:=rfl;have e2:S.addr xs F 0 0=0:=rfl;omega
 have hrange:∀p:Nat,p<=xs.length->0<=S.addr xs G 0 p/\S.addr xs G 0 p<=1000000:=λ p hp=>by
  have h1:=hup 0 p;have h2:=hup p (xs.length-p);rw[Y9] at h1;rw[show p+(xs.length-p)=xs.length by omega] at h2;have e1:S.addr xs G 0 0=0:=rfl;omega
 have hstands:∀(s:ByteArray),(S.stands xs s).toNat<=xs.length:=λ s=>by
  rcases Zax xs s with⟨h1,_⟩|⟨j,y,h1,h2,_⟩
  .rw[h1];exact Nat.zero_le _
  .have:=(Yg.1 h2).1
   omega
 have hGst:S.Stable xs 0 G:=⟨hGok,λ j y hy=>by
  have hj:=(Yg.1 hy).1;have hs:=hstands y.label;generalize hse:(S.stands xs y.label).toNat=q at hs;unfold S.fit;rw[hse];have hgd:=hGd j y hy;by_cases c4:y.kind=4
  .rw[if_pos c4] at hgd
   rw[if_neg (by omega),if_neg (by omega)];have r1:=hrange q hs;have r2:=hrange (j+1) (by omega);exact decide_eq_true ⟨by omega,by omega⟩
  .rw[if_neg c4] at hgd
   have hf:=hst.2 j y hy;unfold S.fit at hf;rw[hse] at hf;rw[hgd]
   split
   .rfl
   .rename_i n1
    rw[if_neg n1] at hf
    split
    .rename_i n2
     rw[if_pos n2] at hf;have hf2:=of_decide_eq_true hf;refine decide_eq_true ?_;rcases Nat.le_total q (j+1) with le|le
     .obtain⟨d,hd⟩:=Nat.le.dest le
      have h1:=hdist q d;have h2:=hup q d;rw[hd] at h1 h2;omega
     .obtain⟨d,hd⟩:=Nat.le.dest le
      have h1:=hdist (j+1) d;have h2:=hup (j+1) d;rw[hd] at h1 h2;omega
    .rename_i n2
     have r1:=hrange q hs;have r2:=hrange (j+1) (by omega);exact decide_eq_true ⟨by omega,by omega⟩⟩
 have h1:=hinv.2 G hGst i;rw[hGd i x hx,if_pos hk] at h1;have:=((hFok.2 i x hx).2.1 hk).1;omega
theorem Z6x {op:Int}(hop:S.isOp op){e:Int}{F:List Int}{size:Int}(h:S.FormsRes (S.joined (S.nObjs op)) 0 e F)(hsz:e=0->S.addr (S.joined (S.nObjs op)) F 0 (S.joined (S.nObjs op)).length<size)(hsz2:size<=335544320) :
 e=0/\(∀b,(S.aa b op F size).Ok)/\S.addr (S.joined (S.nObjs op)) F 0 (S.joined (S.nObjs op)).length<=30000/\F.getD 0 0=1/\F.getD (5+S.nMid.length+3) 0=1:=by
 obtain⟨p1,p2,p3,p4,p5,p6⟩:=nB_parts;have hx:=Zcu op;have hw:=Zwu op;have k1:S.tells (S.joined (S.nObjs op))=S.nTells:=by
  rw[hx,Zhd,Zhd]
  show [S.kStatic,S.kMore,S.kCode]++(S.tells S.nMid++[S.kF0,S.kCall,S.kAfter,S.kEnd])=_
  rw[<- List.append_assoc];rfl
 have k2:∀s∈S.names (S.joined (S.nObjs op)),s∈S.nTells:=λ s hs=>by
  rw[hx,Zhe,Zhe] at hs;rcases Y0.1 hs with q|q
  .have q':s∈[S.kStart]:=q
   rw[Yab] at q';rw[q'];exact Zz1 (a:=[S.kStart]) (b:=S.nTells) (by kernel_rfl) _ Yu
  .rcases Y0.1 q with q|q
   .exact p2 s q
   .have q':s∈[S.kRt op]:=q
    rw[Yab] at q';rw[q'];exact p6 op hop
 have k3:S.allChk (S.joined (S.nObjs op)):=by
  rw[hx];exact Zf2 Z20 (Zf2 p3 (Zy8 op))
 have k4:S.bulk (S.joined (S.nObjs op))<=30000:=by
  rw[hx,Zfg,Zfg];have e1:S.bulk S.lowItems=1327:=by decide
  have e2:S.bulk (S.callItems op)=32:=by
   show(4:Int)+(4+(4+(4+(4+(4+(4+(4+0)))))))=32
   decide
  omega
 obtain⟨e0,hF,ha⟩:=Z4c h k3 (by rw[k1];exact p1) (by rw[k1];exact k2) (by omega);subst e0;have hsz':=hsz rfl;have hl:=Zol op;have hj:=Zrg h k3 hw (by omega) (i:=0) (x:=S.bJ 0 S.kStart) (by rw[hx];rfl) rfl;have hj2:=Zrg h k3 hw (by omega) (i:=5+S.nMid.length+3) (x:=S.bJ 31 (S.kRt op)) (by
  rw[Zhi];rfl) rfl
 have a5:S.addr (S.joined (S.nObjs op)) F 0 5=1312:=by
  have hx0:∀k:Nat,k<5->(S.joined (S.nObjs op))[k]?=S.lowItems[k]?:=λ k hk=>by rw[hx,Ym hk]
  have s0:S.sizeAt (S.joined (S.nObjs op)) F 0=1:=by
   unfold S.sizeAt;rw[hx0 0 (by decide)]
   show S.size (S.bJ 0 S.kStart) (F.getD 0 0)=1
   rw[hj]
   decide
  have s1:S.sizeAt (S.joined (S.nObjs op)) F 1=1311:=by
   unfold S.sizeAt;rw[hx0 1 (by decide)]
   show S.size (S.bSp 1311) (F.getD 1 0)=1311
   unfold S.size S.bSp;simp
  have sl:∀k:Nat,2<=k->k<5->S.sizeAt (S.joined (S.nObjs op)) F k=0:=λ k h2 h5=>by
   unfold S.sizeAt;rw[hx0 k h5]
   match k,h2,h5 with
   | 2,_,_=>rfl
   | 3,_,_=>rfl
   | 4,_,_=>rfl
  show 0+S.sizeAt _ F 0+S.sizeAt _ F 1+S.sizeAt _ F 2+S.sizeAt _ F 3+S.sizeAt _ F 4=1312
  rw[s0,s1,sl 2 (by decide) (by decide),sl 3 (by decide) (by decide),sl 4 (by decide) (by decide)]
  decide
 have hmo:=Zd6 hF hw (base:=0) (i:=5) (n:=(S.joined (S.nObjs op)).length) (by omega);refine⟨rfl,λ b=>⟨h,hw,by show 5<=(if b=true then _ else _);split <;> omega,by show(if b=true then _ else _)<=(S.joined (S.nObjs op)).length;split <;> omega,hsz',hsz2,by show(0:Int)<=1056;decide,by show(1056:Int)<=1312;decide,by show(1312:Int)<=size;omega,.inl ?_⟩,by omega,hj,hj2⟩
 show(1312:Int)<=S.addr (S.joined (S.nObjs op)) F 0 5
 omega
end
namespace S
def plain (w:Int):Int:=if w%4=1\/w%4=3 then w-1 else w
end S
def ReadsP (w:World)(B:Nat)(A:Option Addr)(L:List (ByteArray×Int)):Prop :=
 0<L.length->∃b off,A=some ⟨b,off,none⟩/\b<B/\∀i p,L[i]?=some p->w.cell? ⟨b,off+i*2,none⟩=some (.string p.1)/\w.cell? ⟨b,off+i*2+1,none⟩=some (.int .i64 p.2)
theorem ReadsP.below {w w':World}{B:Nat}{A:Option Addr}{L:List (ByteArray×Int)}(h:ReadsP w B A L)(hb:Below B w w'):ReadsP w' B A L:=λ hp=>by
 obtain⟨b,off,e,hbB,hc⟩:=h hp;exact⟨b,off,e,hbB,λ i p hx=>⟨(hb.cell (p:=⟨b,off+i*2,none⟩) hbB).trans (hc i p hx).1,(hb.cell (p:=⟨b,off+i*2+1,none⟩) hbB).trans (hc i p hx).2⟩⟩
theorem Zy9 (L:List (ByteArray×Int))(i:Nat)(p:ByteArray×Int)(h:L[i]?=some p):(L.flatMap Zaj)[i*2]?=some (.string p.1)/\(L.flatMap Zaj)[i*2+1]?=some (.int .i64 p.2):=by
 induction L generalizing i with
 | nil=>simp at h
 | cons q L ih =>
  cases i with
  | zero =>
   simp only[Ya0,Option.some.injEq] at h;subst h;simp[Zaj]
  | succ i =>
   have h1:=ih i (by simpa using h);have e1:(i+1)*2=i*2+1+1:=by omega
   rw[Ybb,e1]
   simpa[Zaj] using h1
theorem Zza (L:List (ByteArray×Int)):(L.flatMap Zaj).length=L.length*2:=by
 induction L with
 | nil=>rfl
 | cons q L ih=>rw[Ybb,Yd,ih];simp[Zaj];omega
theorem ReadsP.of_own {w:World}{base:Nat}{e:TypeId}{A:Option Addr}{m c n:Nat}{L:List (ByteArray×Int)}(h:w.ownsRow base e 2 (.slice A m c) n (L.flatMap Zaj)):ReadsP w w.heap.size A L:=λ hp=>by
 have hl:(L.flatMap Zaj).length=n*2:=h.1;rw[Zza] at hl;obtain⟨g,rfl,hg1,hg2,hg3,hg4,_⟩:=Z6 h (by omega);refine⟨g,0,rfl,hg2,λ i p hx=>?_⟩;have hi:=(Yg.1 hx).1;obtain⟨f1,f2⟩:=Zy9 L i p hx;refine⟨?_,?_⟩
 .rw[Y9,hg4 _ (by omega),f1]
 .rw[Y9,hg4 _ (by omega),f2]
theorem Zqb {m:S.Mach}{i v:Int}(h0:0<=i)(h1:i<m.mem.length):m.putV i v={ m with mem:=m.mem.set i.toNat v }:=by
 unfold S.Mach.putV;rw[if_pos ⟨h0,h1⟩]
theorem Zgf (m:S.Mach)(i v:Int):(m.putV i v).reg=m.reg/\(m.putV i v).place=m.place/\(m.putV i v).input=m.input/\(m.putV i v).out=m.out/\(m.putV i v).state=m.state/\(m.putV i v).steps=m.steps/\(m.putV i v).mem.length=m.mem.length:=by
 unfold S.Mach.putV
 split <;> simp
theorem Zwv {m:S.Mach}{i v a:Int}(h0:0<=i)(h1:i<m.mem.length)(ha:0<=a):(m.putV i v).mv a=if a=i then v else m.mv a:=by
 rw[Zqb h0 h1]
 show(m.mem.set i.toNat v).getD a.toNat 0=if a=i then v else m.mem.getD a.toNat 0
 by_cases c:a=i
 .subst c
  rw[if_pos rfl];have:a.toNat<m.mem.length:=by omega
  simp[this]
 .rw[if_neg c]
  have:¬i.toNat=a.toNat:=by omega
  simp only[Ye,Ybc this]
theorem Zww (m:S.Mach)(i v j:Int):(m.putV i v).rd j=m.rd j:=by
 unfold S.Mach.rd;rw[(Zgf m i v).1]
theorem Zi8 {m:S.Mach}{i v:Int}(h0:0<i)(h1:i<32):m.setV i v={ m with reg:=m.reg.set i.toNat v }:=by
 unfold S.Mach.setV S.Mach.put;rw[if_pos ⟨by omega,h1⟩,if_neg (by omega)]
theorem Zwx {m:S.Mach}(h:m.Ok){i v j:Int}(h0:0<i)(h1:i<32):(m.setV i v).rd j=if j=i then v else m.rd j:=by
 rw[Zi8 h0 h1];have hr:=h.regs
 show(m.reg.set i.toNat v).getD j.toNat 0=if j=i then v else m.reg.getD j.toNat 0
 by_cases c:j=i
 .subst c
  rw[if_pos rfl];have:j.toNat<m.reg.length:=by omega
  simp[this]
 .rw[if_neg c]
  have:¬i.toNat=j.toNat:=by omega
  simp only[Ye,Ybc this]
theorem Zwy {m:S.Mach}{i v a:Int}(h0:0<i)(h1:i<32):(m.setV i v).mv a=m.mv a:=by
 rw[Zi8 h0 h1];rfl
theorem Z0o {m:S.Mach}{i:Int}(h0:0<=i)(h1:i<32):m.regV i=m.rd i:=by
 unfold S.Mach.regV;rw[if_pos ⟨h0,h1⟩];rfl
theorem Z45 {m:S.Mach}{i:Int}(h0:0<=i)(h1:i<m.mem.length):m.memV i=m.mv i:=by
 unfold S.Mach.memV;rw[if_pos ⟨h0,h1⟩];rfl
theorem Zwz {I:S.Img}(hI:I.Ok){mem:List Int}(h:I.In mem){p:Int}(hp:0<=p)(hc:¬I.code p)(v:Int):I.In (mem.set p.toNat v):=λ k k0 k1 j w hv=>by
 have hold:=h k k0 k1 j w hv;have hlt:=(Yg.1 hv).1;have hlen:=Za5 (base:=0) (Za0 hI) (Zcs (Zcf hI)) hI.words k;have hnx:I.adr (k+1)=I.adr k+S.sizeAt I.xs I.F k:=rfl;have l1:=Zdw hI (i:=I.i0) (j:=k) k0;have l2:=Zdw hI (i:=k+1) (j:=I.i1) k1;have l3:=Zo6 hI k;have hne:¬p.toNat=(I.adr k).toNat+j:=by
  intro e;exact hc ⟨by omega,by omega⟩
 rw[<- hold];simp only[Ye,Ybc hne]
theorem Zw0 {m:S.Mach}(h:m.Ok){i v:Int}(hv:0<=v/\v<=4294967295):(m.putV i v).Ok:=by
 unfold S.Mach.putV
 split
 .rename_i c
  refine⟨h.regs,h.word,h.zero,by simpa using h.mem,λ j=>?_,h.place0,h.place1,h.inp,h.outp,h.code0,h.code1⟩
  show 0<=(m.mem.set i.toNat v).getD j 0/\(m.mem.set i.toNat v).getD j 0<=4294967295
  by_cases e:i.toNat=j
  .subst e
   have:i.toNat<m.mem.length:=by omega
   simp[this];exact hv
  .have:=h.memw j
   simp only[Ye,Ybc e] at this⊢;exact this
 .exact h
theorem Zsv (n f a t:Int):S.wordsOf (S.bSp n) f a t=List.replicate n.toNat 0:=by
 have hk:(S.bSp n).kind=8:=rfl;unfold S.wordsOf;rw[hk,if_neg (by decide),if_neg (λ h=>absurd h.1 (by decide)),if_neg (λ h=>absurd h.1 (by decide)),if_neg (by decide),if_neg (λ h=>absurd h.1 (by decide)),if_neg (by decide),if_neg (by decide),if_neg (by decide),if_neg (by decide),if_pos rfl];rfl
theorem Zw1 (n f a t:Int):S.wordsOf (S.bW n) f a t=[n]:=by
 have hk:(S.bW n).kind=6:=rfl;unfold S.wordsOf;rw[hk,if_neg (by decide),if_neg (λ h=>absurd h.1 (by decide)),if_neg (λ h=>absurd h.1 (by decide)),if_neg (by decide),if_neg (λ h=>absurd h.1 (by decide)),if_neg (by decide),if_neg (by decide),if_pos rfl];rfl
section
attribute [local irreducible] S.nMid
theorem Zbp (m:S.Mach)(d v:Int):(m.put d v).state=m.state:=by
 unfold S.Mach.put
 split <;> rfl
theorem Zsw (m:S.Mach)(i:S.Inst):(m.act i).1.state=m.state\/m.act i=({ m with state:=1,code:=m.rd i.a },m.place,0):=by
 unfold S.Mach.act
 extract_lets a b imm next at_
 split
 .split
  .exact .inl rfl
  .exact .inl (Zbp _ _ _)
 split
 .exact .inl (Zbp _ _ _)
 split
 .exact .inl (Zbp _ _ _)
 split
 .split
  .exact .inl (Zbp _ _ _)
  .exact .inl rfl
 split
 .split
  .exact .inl rfl
  .exact .inl rfl
 split
 .exact .inl rfl
 split
 .exact .inl (Zbp _ _ _)
 split
 .exact .inl (Zbp _ _ _)
 split
 .split
  .exact .inl (Zbp _ _ _)
  .exact .inl (Zbp _ _ _)
 split
 .exact .inl rfl
 .exact .inr rfl
theorem Zqc {m:S.Mach}(h0:m.state=0)(h1:m.step.state=1):m.step.place=m.place/\m.step.mem=m.mem/\m.step.reg=m.reg/\m.step.code=m.rd (S.dec (m.mem.getD m.place.toNat 0)).a:=by
 have e:m.step=m.step:=rfl;unfold S.Mach.step at h1⊢;rw[if_neg (by omega)] at h1⊢
 split at h1
 .exact absurd h1 (by show ¬(2:Int)=1;decide)
 rename_i c1
 rw[if_neg c1]
 split at h1
 .exact absurd h1 (by show ¬(2:Int)=1;decide)
 rename_i c2
 rw[if_neg c2]
 split at h1
 .exact absurd h1 (by show ¬(2:Int)=1;decide)
 rename_i c3
 rw[if_neg c3];rcases Zsw m (S.dec (m.mem.getD m.place.toNat 0)) with h|h
 .have:(m.act (S.dec (m.mem.getD m.place.toNat 0))).1.state=1:=h1
  omega
 .rw[h]
  exact⟨rfl,rfl,rfl,rfl⟩
theorem Zom {m:S.Mach}(h0:m.state=0):∀j:Nat,(m.steps_ j).state=1->∃k,(m.steps_ k).state=0/\(m.steps_ k).step=m.steps_ j
 | 0,h=>by
  have:m.state=1:=h;omega
 | j+1,h=>by
  by_cases c:(m.steps_ j).state=0
  .exact⟨j,c,rfl⟩
  .have e:m.steps_ (j+1)=m.steps_ j:=by
    show(m.steps_ j).step=m.steps_ j
    unfold S.Mach.step;rw[if_pos c]
   rw[e] at h⊢;exact Zom h0 j h
theorem Zzb {I:S.Img}(hI:I.Ok){m:S.Mach}(h0:m.state=0){j:Nat}{V:S.Vw}{c:Int}(h:S.Off I (m.steps_ j) V c){i:Nat}{s:ByteArray}{w:Int}(hi0:I.i0<=i)(hi1:i<I.i1)(hx:I.xs[i]?=some ⟨1,⟨36,0,0,0,0⟩,s,w⟩)(hp:(m.steps_ j).place=I.adr i):c=0:=by
 obtain⟨k,hk,he⟩:=Zom h0 j h.end_;obtain⟨q1,q2,q3,q4⟩:=Zqc hk (by rw[he];exact h.end_);rw[he] at q1 q2 q3 q4;obtain⟨hw,hg,hn⟩:=Zaa hI hi0 hi1 hx;have hin:=h.code i hi0 hi1 0 (S.wordOf ⟨36,0,0,0,0⟩) (by rw[hw];rfl);rw[Ybd] at hin;rw[<- q1,<- q2,hp,hin] at q4;have e1:S.dec (S.wordOf ⟨36,0,0,0,0⟩)=⟨36,0,0,0,0⟩:=by
  have e:S.wordOf ⟨36,0,0,0,0⟩=S.enc ⟨36,0,0,0,0⟩:=by unfold S.wordOf;rw[if_pos hg]
  rw[e];exact(Zte hg).1
 rw[e1] at q4;have z:=h.ok.zero;rw[<- h.codeIs,q4]
 show(m.steps_ k).reg.getD 0 0=0
 rw[<- q3];exact z
structure S.a8 (I:S.Img)(B:Nat)(a:Int):Prop where
 code:I.lab S.kCode=1312
 call:I.lab S.kCall=a+1
 at3:I.adr (B+3)=a+1
 at4:I.adr (B+4)=a+2
 after:I.lab S.kAfter=a+3
 at6:I.adr (B+6)=a+3
 end_:I.lab S.kEnd=a+4
 top:I.adr I.xs.length=a+4
 i0:I.adr 5=1312
 a0:1312<=a
theorem Zzc {I:S.Img}{B:Nat}{op:Int}(hI:I.Ok)(hlow:∀k:Nat,k<5->I.xs[k]?=S.lowItems[k]?)(hcall:∀k:Nat,I.xs[B+k]?=(S.callItems op)[k]?)(hlen:I.xs.length=B+8)(h0:I.F.getD 0 0=1)(h3:I.F.getD (B+3) 0=1)(hB:5<=B):∃a,S.a8 I B a:=by
 have hla:∀{i:Nat} {x:S.Item},I.xs[i]?=some x->x.kind=2->I.lab x.label=I.adr i:=λ hx hk=>by
  unfold S.Img.lab;rw[Zh7 hI hx hk];rfl
 have n0:=Z8 hI (i:=0) (x:=S.bJ 0 S.kStart) (hlow 0 (by decide));have n1:=Z8 hI (i:=1) (x:=S.bSp 1311) (hlow 1 (by decide));have n2:I.adr 3=I.adr 2+0:=Z8 hI (i:=2) (x:=S.bL S.kStatic) (hlow 2 (by decide));have n3:I.adr 4=I.adr 3+0:=Z8 hI (i:=3) (x:=S.bL S.kMore) (hlow 3 (by decide));have n4:I.adr 5=I.adr 4+0:=Z8 hI (i:=4) (x:=S.bL S.kCode) (hlow 4 (by decide));have z0:I.adr 0=0:=rfl;have s0:S.size (S.bJ 0 S.kStart) (I.F.getD 0 0)=1:=by rw[h0];decide
 have s1:S.size (S.bSp 1311) (I.F.getD 1 0)=1311:=by unfold S.size S.bSp;simp
 rw[s0] at n0;rw[s1] at n1;have x0:I.xs[B]?=some (S.bL S.kF0):=hcall 0;have x1:I.xs[B+1]?=some S.bHalt:=hcall 1;have x2:I.xs[B+2]?=some (S.bL S.kCall):=hcall 2;have x3:I.xs[B+3]?=some (S.bJ 31 (S.kRt op)):=hcall 3;have x4:I.xs[B+4]?=some (S.bW 0):=hcall 4;have x5:I.xs[B+5]?=some (S.bL S.kAfter):=hcall 5;have x6:I.xs[B+6]?=some S.bHalt:=hcall 6;have x7:I.xs[B+7]?=some (S.bL S.kEnd):=hcall 7;have c0:I.adr (B+1)=I.adr B+0:=Z8 hI x0;have c1:I.adr (B+2)=I.adr (B+1)+1:=Z8 hI x1;have c2:I.adr (B+3)=I.adr (B+2)+0:=Z8 hI x2;have c3:I.adr (B+4)=I.adr (B+3)+S.size (S.bJ 31 (S.kRt op)) (I.F.getD (B+3) 0):=Z8 hI x3;have c4:I.adr (B+5)=I.adr (B+4)+1:=Z8 hI x4;have c5:I.adr (B+6)=I.adr (B+5)+0:=Z8 hI x5;have c6:I.adr (B+7)=I.adr (B+6)+1:=Z8 hI x6;have c7:I.adr (B+8)=I.adr (B+7)+0:=Z8 hI x7;have s3:S.size (S.bJ 31 (S.kRt op)) (I.F.getD (B+3) 0)=1:=by
  rw[h3];unfold S.size S.bJ;simp
 rw[s3] at c3;have l0:I.lab S.kCode=I.adr 4:=hla (x:=S.bL S.kCode) (hlow 4 (by decide)) rfl;have l2:I.lab S.kCall=I.adr (B+2):=hla x2 rfl;have l5:I.lab S.kAfter=I.adr (B+5):=hla x5 rfl;have l7:I.lab S.kEnd=I.adr (B+7):=hla x7 rfl;have hmo:=Zdw hI (i:=5) (j:=B) (by omega);have e1:I.adr (0+1)=I.adr 1:=rfl;have e2:I.adr (1+1)=I.adr 2:=rfl;rw[e1] at n0;rw[e2] at n1;rw[<- hlen] at c7;clear x0 x1 x2 x3 x4 x5 x6 x7 hla hlow hcall s0 s1 s3;exact⟨I.adr B,by omega,by omega,by omega,by omega,by omega,by omega,by omega,by omega,by omega,by omega⟩
section
variable {op:Int}{F:List Int}{size:Int}
theorem Zzd {j:Nat}{o:S.Obj}(hj:S.nMidO[j]?=some o):∃i,S.Seg (S.aa true op F size) o.name i o.items:=by
 obtain⟨A,B,e⟩:=Zne hj;have hx:=Zcu op;have hl:S.lowItems.length=5:=rfl;have hm:S.nMid=A++(o.items.map (S.ownItem o.name)++B):=by
  unfold S.nMid;exact e
 refine⟨5+A.length,λ k x hk=>?_,by show 5<=5+A.length;omega,?_⟩
 .show(S.joined (S.nObjs op))[_]?=_
  rw[hx,Yo (by omega),hl,hm];have hlt:=(Yg.1 hk).1;rw[Ym (by simp only[Yd,Yac];omega),Yo (by omega),Ym (by rw[Yac];omega)];rw[show 5+A.length+k-5-A.length=k from by omega,List.getElem?_map,hk];rfl
 .show _<=(S.joined (S.nObjs op)).length
  rw[Zol,hm];simp only[Yd,Yac];omega
theorem Za4 {j:Nat}{r:S.BR}(hj:S.nMidO[j]?=some (S.ofR r)):∃i,S.Seg (S.aa true op F size) r.name i (S.bItems r):=Zzd hj
variable (hI:(S.aa true op F size).Ok)
include hI
theorem Z46:S.NSegs (S.aa true op F size) :=
 ⟨hI,Za4 (r:=S.rNInt) (j:=15) rfl,Za4 (r:=S.rNLen) (j:=16) rfl,Za4 (r:=S.rNNeg) (j:=17) rfl,Za4 (r:=S.rNDig) (j:=18) rfl,Za4 (r:=S.rNCmp) (j:=19) rfl,Za4 (r:=S.rNFin) (j:=20) rfl,Za4 (r:=S.rNAdd) (j:=21) rfl,Za4 (r:=S.rNSub) (j:=22) rfl,Za4 (r:=S.rNSum) (j:=23) rfl,Za4 (r:=S.rNMul) (j:=24) rfl,Za4 (r:=S.rNTop) (j:=25) rfl,Za4 (r:=S.rNShl) (j:=26) rfl,Za4 (r:=S.rNTake) (j:=27) rfl,Za4 (r:=S.rNBack) (j:=28) rfl,Za4 (r:=S.rNDiv) (j:=29) rfl⟩
theorem Z21:S.CSegs (S.aa true op F size):=⟨Za4 (r:=S.rMove) (j:=2) rfl,Za4 (r:=S.rScan) (j:=3) rfl,Za4 (r:=S.rFrame) (j:=4) rfl,Za4 (r:=S.rCollect) (j:=5) rfl,Za4 (r:=S.rReserve) (j:=6) rfl⟩
theorem Z47 (h0:F.getD 0 0=1)(h3:F.getD (5+S.nMid.length+3) 0=1):∃a,S.a8 (S.aa true op F size) (5+S.nMid.length) a :=
 Zzc (op:=op) hI (λ k hk=>by
  show(S.joined (S.nObjs op))[k]?=_
  rw[Zcu,Ym hk]) (λ k=>Zhi op k) (Zol op) h0 h3 (Nat.le_add_right 5 _)
structure S.de (op:Int)(F:List Int)(size:Int)(m:S.Mach):Prop where
 ok:m.Ok
 run:m.state=0
 len:(m.mem.length:Int)=size
 code:(S.aa true op F size).In m.mem
 place:m.place=(S.aa true op F size).lab S.kCall
 r28:m.rd 28=1056
theorem Z7n {a:Int}(hL:S.a8 (S.aa true op F size) (5+S.nMid.length) a){m:S.Mach}(hm:S.de op F size m):∃k,k<=3/\S.On (S.aa true op F size) (m.steps_ k) ((S.viewOf m).set 31 (a+2)) ((S.aa true op F size).lab (S.kRt op)):=by
 have hon:S.On (S.aa true op F size) m (S.viewOf m) ((S.aa true op F size).lab S.kCall):=⟨hm.ok,hm.run,hm.len,hm.code,hm.place,λ _ _ _ _=>rfl,λ _ _ _=>rfl,rfl,rfl⟩
 have x3:(S.aa true op F size).xs[5+S.nMid.length+3]?=some (S.bJ 31 (S.kRt op)):=Zhi op 3;have g:=Zqo hI (i:=5+S.nMid.length+3) (by show 5<=_;omega) (by show _<(S.joined (S.nObjs op)).length;rw[Zol];omega) (V:=S.viewOf m) x3 (by decide) (by decide);rw[hL.at3,show 5+S.nMid.length+3+1=5+S.nMid.length+4 by omega,hL.at4,<- hL.call] at g;exact g m hon
theorem Z0p {a:Int}(hL:S.a8 (S.aa true op F size) (5+S.nMid.length) a){m:S.Mach}(hc:(S.aa true op F size).In m.mem)(ha:0<=a):m.mv (a+2)=0:=by
 have x4:(S.aa true op F size).xs[5+S.nMid.length+4]?=some (S.bW 0):=Zhi op 4;have hw:(S.wordsAt (S.aa true op F size).xs (S.aa true op F size).F 0 (5+S.nMid.length+4))[0]?=some 0:=by
  unfold S.wordsAt;rw[x4]
  show(S.wordsOf (S.bW 0) _ _ _)[0]?=some 0
  rw[Zw1];rfl
 have:=hc (5+S.nMid.length+4) (by show 5<=_;omega) (by show _<(S.joined (S.nObjs op)).length;rw[Zol];omega) 0 0 hw;rw[hL.at4,Ybd] at this;exact this
theorem Z6k {a:Int}(hL:S.a8 (S.aa true op F size) (5+S.nMid.length) a)(hs:a+4<size){m:S.Mach}(hm:S.de op F size m){d:Int}{R:S.BO->Nat->Prop}(hd:d<=256)(hr:S.ah (S.aa true op F size) (S.kRt op) true (S.viewOf m) d (a+2) R)(hk:∀o k,R o k->k<=3000000)(hl:∀t st k,¬R (.left t st) k)(h0:∀c st k,R (.halt c st) k->c≠0) :
 ((m.steps_ 5000000).state=1) /\
 ((∃st' k,R (.ret st') k/\S.b5 (S.aa true op F size) (m.steps_ 5000000) st'/\(m.steps_ 5000000).place=a+3/\(m.steps_ 5000000).rd 28=1056)\/(∃st' k c,R (.halt c st') k/\(m.steps_ 5000000).code=c/\(m.steps_ 5000000).place≠a+3)):=by
 obtain⟨k1,hk1,hon1⟩:=Z7n hI hL hm;have ha:=hL.a0;obtain⟨o,k,hRo,hdone⟩:=hr ((S.viewOf m).set 31 (a+2)) 1056 ((S.Mt.refl_ (S.viewOf m)).hid (by decide) _) (by rw[Zg _ _ (by decide)];exact hm.r28) (Zj _ _ _) (by omega) (by show a+2<size;omega) (Int.le_refl _) (by show 1056+d<=1312;omega);have hk3:=hk o k hRo;have x6:(S.aa true op F size).xs[5+S.nMid.length+6]?=some S.bHalt:=Zhi op 6;have b0:(S.aa true op F size).i0<=5+S.nMid.length+6:=by show 5<=_;omega
 have b1:5+S.nMid.length+6<(S.aa true op F size).i1:=by show _<(S.joined (S.nObjs op)).length;rw[Zol];omega
 have more:∀(j:Nat),j<=5000000->(m.steps_ j).state≠0->m.steps_ 5000000=m.steps_ j:=λ j hj hst=>by
  obtain⟨x,hx⟩:∃x,5000000=j+x:=⟨5000000-j,by omega⟩
  rw[hx,Za6,Zh6 hst]
 cases o with
 | ret st' =>
  obtain⟨V',g,hmt,h28,_⟩:=hdone;obtain⟨j,hj,hon⟩:=g _ hon1;have hz:V'.mem (a+2)=0:=by
   rw[<- hon.mem (a+2) (by omega) (by show a+2<size;omega)];exact Z0p hI hL hon.code (by omega)
  have hb:S.backTo true V' (a+2)=a+3:=by
   have h2:=hI.size2;have h3:(S.aa true op F size).size=size:=rfl;unfold S.backTo;rw[if_pos rfl,hz];unfold S.u32m;omega
  rw[hb,<- hL.at6] at hon;obtain⟨hoff,hpl⟩:=Z1u hI b0 b1 x6 hon;have e:m.steps_ 5000000=((m.steps_ k1).steps_ j).steps_ 1:=by
   rw[<- Za6,<- Za6];refine more _ (by omega) ?_;rw[Za6,Za6,hoff.end_]
   decide
  rw[e];exact⟨hoff.end_,.inl ⟨st',k,hRo,Zyl hoff hmt,by rw[hpl];exact hL.at6,by rw[hoff.reg 28 (by decide) (by decide) (by decide)];exact h28⟩⟩
 | halt c st' =>
  obtain⟨V',g,hmt⟩:=hdone;obtain⟨j,hj,hoff⟩:=g _ hon1;have e:m.steps_ 5000000=(m.steps_ k1).steps_ j:=by
   rw[<- Za6];refine more _ (by omega) ?_;rw[Za6,hoff.end_]
   decide
  rw[e];refine⟨hoff.end_,.inr ⟨st',k,c,hRo,hoff.codeIs,λ hp=>?_⟩⟩;refine h0 c st' k hRo ?_;exact Zzb hI hon1.run hoff b0 b1 x6 (hp.trans hL.at6.symm)
 | left t st=>exact absurd hRo (hl t st k)
end
end
section
namespace S
inductive AV where
 | int (k:IntKind) (n:Int)
 | bool (b:Bool)
 | str (s:ByteArray)
 | fn (f:FuncId)
 | row (n:Nat) (cs:List AV)
 | agg (cs:List AV)
 | tup (vs:List AV)
 | box (id off:Nat)
 | ptr (cs:List AV) (off:Nat)
 | any
def AV.cell:AV->Bool
 | .int _ _ | .bool _ | .str _ | .fn _ | .row _ _=>true
 | _=>false
def AV.cells:AV->Option (List AV)
 | .agg cs=>some cs
 | .int k n=>some [.int k n]
 | .bool b=>some [.bool b]
 | .str s=>some [.str s]
 | .fn f=>some [.fn f]
 | .row n cs=>some [.row n cs]
 | _=>none
def AV.free:AV->Bool
 | .box _ _ | .ptr _ _ | .any=>false
 | _=>true
abbrev Tail:=Option (TypeId×Nat)
abbrev Ent:=TypeId×List AV
structure St where
 sl:Nat->Option AV
 tl:Nat->Tail
 hp:Nat->Option Ent
inductive Rd (α:Type) where
 | done (a:α)
 | fail
 | sl (t:Nat) (k:Option AV->Rd α)
 | tl (t:Nat) (k:Tail->Rd α)
 | hp (i:Nat) (k:Option Ent->Rd α)
namespace Rd
def bind {α β:Type}:Rd α->(α->Rd β)->Rd β
 | .done a,f=>f a
 | .fail,_=>.fail
 | .sl t k,f=>.sl t λ x=>(k x).bind f
 | .tl t k,f=>.tl t λ x=>(k x).bind f
 | .hp t k,f=>.hp t λ x=>(k x).bind f
def run {α:Type}:Rd α->St->Option (α×List Nat)
 | .done a,_=>some (a,[])
 | .fail,_=>none
 | .sl t k,s=>match (k (s.sl t)).run s with|some (a,l)=>some (a,(3*t)::l) | none=>none
 | .tl t k,s=>match (k (s.tl t)).run s with|some (a,l)=>some (a,(3*t+1)::l) | none=>none
 | .hp t k,s=>match (k (s.hp t)).run s with|some (a,l)=>some (a,(3*t+2)::l) | none=>none
def ofOpt {α:Type}:Option α->Rd α
 | some a=>.done a
 | none=>.fail
end Rd
structure Eff where
 dst:Option (Nat×AV×Tail)
 drop:Option Nat
 ent:Option (Nat×Ent)
def Eff.apply (e:Eff)(s:St):St where
 sl:=λ t=>match e.dst with
  | some (d,v,_)=>if t=d then some v else s.sl t
  | none=>s.sl t
 tl:=λ t=>match e.dst with
  | some (d,_,z)=>if t=d then z else if e.drop=some t then none else s.tl t
  | none=>if e.drop=some t then none else s.tl t
 hp:=λ i=>match e.ent with
  | some (k,x)=>if i=k then some x else s.hp i
  | none=>s.hp i
def Eff.writes (e:Eff):List Nat :=
 (match e.dst with|some (d,_,_)=>[3*d,3*d+1] | none=>[])++(match e.drop with|some t=>[3*t+1] | none=>[])++(match e.ent with|some (k,_)=>[3*k+2] | none=>[])
def same (r:Nat)(s s':St):Prop:=if r%3=0 then s.sl (r/3)=s'.sl (r/3) else if r%3=1 then s.tl (r/3)=s'.tl (r/3) else s.hp (r/3)=s'.hp (r/3)
end S
open S in
theorem Zrh (t:Nat)(s s':St):same (3*t) s s'↔s.sl t=s'.sl t:=by
 unfold same;rw[if_pos (by omega),show 3*t/3=t by omega]
open S in
theorem Zri (t:Nat)(s s':St):same (3*t+1) s s'↔s.tl t=s'.tl t:=by
 unfold same;rw[if_neg (by omega),if_pos (by omega),show(3*t+1)/3=t by omega]
open S in
theorem Zrj (t:Nat)(s s':St):same (3*t+2) s s'↔s.hp t=s'.hp t:=by
 unfold same;rw[if_neg (by omega),if_neg (by omega),show(3*t+2)/3=t by omega]
theorem S.same.refl (r:Nat)(s:S.St):S.same r s s:=by
 unfold S.same
 split
 .rfl
 .split <;> rfl
theorem S.same.trans {r:Nat}{a b c:S.St}(h:S.same r a b)(k:S.same r b c):S.same r a c:=by
 unfold S.same at *
 split at h
 .rw[if_pos (by assumption)] at k⊢;exact h.trans k
 .rw[if_neg (by assumption)] at k⊢
  split at h
  .rw[if_pos (by assumption)] at k⊢;exact h.trans k
  .rw[if_neg (by assumption)] at k⊢;exact h.trans k
theorem S.same.symm {r:Nat}{a b:S.St}(h:S.same r a b):S.same r b a:=by
 unfold S.same at *
 split at h
 .rw[if_pos (by assumption)];exact h.symm
 .rw[if_neg (by assumption)]
  split at h
  .rw[if_pos (by assumption)];exact h.symm
  .rw[if_neg (by assumption)];exact h.symm
theorem Z0q {s s':S.St}(h:∀r,S.same r s s'):s=s':=by
 obtain⟨a,b,c⟩:=s;obtain⟨a',b',c'⟩:=s';have h1:a=a':=funext λ t=>(Zrh t _ _).1 (h _)
 have h2:b=b':=funext λ t=>(Zri t _ _).1 (h _)
 have h3:c=c':=funext λ t=>(Zrj t _ _).1 (h _)
 rw[h1,h2,h3]
theorem Zi9 (r:Nat):(∃t,r=3*t)\/(∃t,r=3*t+1)\/∃t,r=3*t+2:=by
 by_cases h:r%3=0
 .exact .inl ⟨r/3,by omega⟩
 .by_cases h1:r%3=1
  .exact .inr (.inl ⟨r/3,by omega⟩)
  .exact .inr (.inr ⟨r/3,by omega⟩)
open S in
theorem Zdd {e:Eff}{r:Nat}(h:r ∉ e.writes)(s:St):same r (e.apply s) s:=by
 obtain⟨dst,drop,ent⟩:=e;unfold Eff.writes at h;simp only[Y0,not_or] at h;obtain⟨⟨h1,h2⟩,h3⟩:=h;rcases Zi9 r with⟨t,rfl⟩|⟨t,rfl⟩|⟨t,rfl⟩
 .rw[Zrh]
  unfold Eff.apply;rcases dst with _|⟨d,v,z⟩
  .rfl
  .simp only[Yz,Yap,or_false,not_or] at h1⊢
   rw[if_neg (by omega)]
 .rw[Zri]
  unfold Eff.apply;have hd:drop≠some t:=by
   rcases drop with _|d
   .simp
   .simp only[Yz,Yap,or_false] at h2
    intro e
    cases e
    exact h2 rfl
  rcases dst with _|⟨d,v,z⟩
  .simp only;rw[if_neg hd]
  .simp only[Yz,Yap,or_false,not_or] at h1⊢
   rw[if_neg (by omega),if_neg hd]
 .rw[Zrj]
  unfold Eff.apply;rcases ent with _|⟨k,x⟩
  .rfl
  .simp only[Yz,Yap,or_false] at h3⊢
   rw[if_neg (by omega)]
open S in
theorem Zon {e:Eff}{r:Nat}(h:r∈e.writes)(s s':St):same r (e.apply s) (e.apply s'):=by
 obtain⟨dst,drop,ent⟩:=e;unfold Eff.writes at h;rcases Zi9 r with⟨t,rfl⟩|⟨t,rfl⟩|⟨t,rfl⟩
 .rw[Zrh]
  unfold Eff.apply;rcases dst with _|⟨d,v,z⟩
  .exfalso
   rcases drop with _|d <;> rcases ent with _|⟨k,x⟩ <;> simp at h <;> omega
  .by_cases c:t=d
   .simp only[c,if_true]
   .exfalso
    rcases drop with _|d <;> rcases ent with _|⟨k,x⟩ <;> simp at h <;> omega
 .rw[Zri]
  unfold Eff.apply;rcases dst with _|⟨d,v,z⟩
  .by_cases c:drop=some t
   .simp only[c,if_true]
   .exfalso
    rcases drop with _|d <;> rcases ent with _|⟨k,x⟩ <;> simp at h c <;> omega
  .by_cases c0:t=d
   .simp only[c0,if_true]
   .by_cases c:drop=some t
    .simp only[c,if_true,if_neg c0]
    .exfalso
     rcases drop with _|d <;> rcases ent with _|⟨k,x⟩ <;> simp at h c <;> omega
 .rw[Zrj]
  unfold Eff.apply;rcases ent with _|⟨k,x⟩
  .exfalso
   rcases drop with _|d <;> rcases dst with _|⟨d,v,z⟩ <;> simp at h <;> omega
  .by_cases c:t=k
   .simp only[c,if_true]
   .exfalso
    rcases drop with _|d <;> rcases dst with _|⟨d,v,z⟩ <;> simp at h <;> omega
theorem Zsx {e:S.Eff}{r:Nat}{s s':S.St}(h:S.same r s s'):S.same r (e.apply s) (e.apply s'):=by
 by_cases c:r∈e.writes
 .exact Zon c s s'
 .exact((Zdd c s).trans h).trans (Zdd c s').symm
theorem Zhx {α:Type}:∀(m:S.Rd α) {s s':S.St} {x:α} {l:List Nat},m.run s=some (x,l)->(∀r∈l,S.same r s s')->m.run s'=some (x,l)
 | .done a,s,s',x,l,h,_=>by
  unfold S.Rd.run at h⊢;exact h
 | .fail,s,s',x,l,h,_=>by simp[S.Rd.run] at h
 | .sl t k,s,s',x,l,h,hs=>by
  unfold S.Rd.run at h⊢
  cases hk:(k (s.sl t)).run s with
  | none=>rw[hk] at h;simp at h
  | some p =>
   obtain⟨a,l'⟩:=p;rw[hk] at h;simp only[Option.some.injEq,Prod.mk.injEq] at h;obtain⟨rfl,rfl⟩:=h;have e:s.sl t=s'.sl t:=(Zrh t s s').1 (hs _ Yu);have:=Zhx (k (s.sl t)) hk (s':=s') λ r hr=>hs r (Yw _ hr)
   rw[e] at this;rw[this]
 | .tl t k,s,s',x,l,h,hs=>by
  unfold S.Rd.run at h⊢
  cases hk:(k (s.tl t)).run s with
  | none=>rw[hk] at h;simp at h
  | some p =>
   obtain⟨a,l'⟩:=p;rw[hk] at h;simp only[Option.some.injEq,Prod.mk.injEq] at h;obtain⟨rfl,rfl⟩:=h;have e:s.tl t=s'.tl t:=(Zri t s s').1 (hs _ Yu);have:=Zhx (k (s.tl t)) hk (s':=s') λ r hr=>hs r (Yw _ hr)
   rw[e] at this;rw[this]
 | .hp t k,s,s',x,l,h,hs=>by
  unfold S.Rd.run at h⊢
  cases hk:(k (s.hp t)).run s with
  | none=>rw[hk] at h;simp at h
  | some p =>
   obtain⟨a,l'⟩:=p;rw[hk] at h;simp only[Option.some.injEq,Prod.mk.injEq] at h;obtain⟨rfl,rfl⟩:=h;have e:s.hp t=s'.hp t:=(Zrj t s s').1 (hs _ Yu);have:=Zhx (k (s.hp t)) hk (s':=s') λ r hr=>hs r (Yw _ hr)
   rw[e] at this;rw[this]
theorem Zl {α β:Type}:∀(m:S.Rd α)(f:α->S.Rd β) {s:S.St} {y:β} {l:List Nat},(m.bind f).run s=some (y,l)->∃x l1 l2,m.run s=some (x,l1)/\(f x).run s=some (y,l2)
 | .done a,f,s,y,l,h=>⟨a,[],l,rfl,h⟩
 | .fail,f,s,y,l,h=>by simp[S.Rd.bind,S.Rd.run] at h
 | .sl t k,f,s,y,l,h=>by
  unfold S.Rd.bind S.Rd.run at h
  cases hk:((k (s.sl t)).bind f).run s with
  | none=>rw[hk] at h;simp at h
  | some p =>
   obtain⟨a,l'⟩:=p;rw[hk] at h;simp only[Option.some.injEq,Prod.mk.injEq] at h;obtain⟨rfl,rfl⟩:=h;obtain⟨x,l1,l2,h1,h2⟩:=Zl (k (s.sl t)) f hk;exact⟨x,_,l2,by rw[S.Rd.run,h1],h2⟩
 | .tl t k,f,s,y,l,h=>by
  unfold S.Rd.bind S.Rd.run at h
  cases hk:((k (s.tl t)).bind f).run s with
  | none=>rw[hk] at h;simp at h
  | some p =>
   obtain⟨a,l'⟩:=p;rw[hk] at h;simp only[Option.some.injEq,Prod.mk.injEq] at h;obtain⟨rfl,rfl⟩:=h;obtain⟨x,l1,l2,h1,h2⟩:=Zl (k (s.tl t)) f hk;exact⟨x,_,l2,by rw[S.Rd.run,h1],h2⟩
 | .hp t k,f,s,y,l,h=>by
  unfold S.Rd.bind S.Rd.run at h
  cases hk:((k (s.hp t)).bind f).run s with
  | none=>rw[hk] at h;simp at h
  | some p =>
   obtain⟨a,l'⟩:=p;rw[hk] at h;simp only[Option.some.injEq,Prod.mk.injEq] at h;obtain⟨rfl,rfl⟩:=h;obtain⟨x,l1,l2,h1,h2⟩:=Zl (k (s.hp t)) f hk;exact⟨x,_,l2,by rw[S.Rd.run,h1],h2⟩
theorem Zah {α:Type}{o:Option α}{s:S.St}{y:α}{l:List Nat}(h:(S.Rd.ofOpt o).run s=some (y,l)):o=some y:=by
 cases o with
 | none=>simp[S.Rd.ofOpt,S.Rd.run] at h
 | some a=>simp[S.Rd.ofOpt,S.Rd.run] at h;rw[h.1]
namespace S
def stL (L:Nat->Bool):List (Eff×List Nat)->Nat->St->St
 | [],_,s=>s
 | (e,_)::r,i,s=>stL L r (i+1) (if L i=true then e.apply s else s)
end S
theorem Zgg {L L':Nat->Bool}{r:Nat}:∀(es:List (S.Eff×List Nat)) (i:Nat) (s s':S.St),S.same r s s'->(∀k e l,es[k]?=some (e,l)->r∈e.writes->L (i+k)=L' (i+k))->S.same r (S.stL L es i s) (S.stL L' es i s')
 | [],i,s,s',h,_=>h
 | (e,l)::es,i,s,s',h,hw=>by
  unfold S.stL;refine Zgg es (i+1) _ _ ?_ λ k e' l' hk hr=>?_
  .by_cases c:r∈e.writes
   .have:=hw 0 e l rfl c
    rw[Ybd] at this;rw[this]
    split
    .exact Zsx h
    .exact h
   .have h1:S.same r (if L i=true then e.apply s else s) s:=by
     split
     .exact Zdd c s
     .exact S.same.refl _ _
    have h2:S.same r (if L' i=true then e.apply s' else s') s':=by
     split
     .exact Zdd c s'
     .exact S.same.refl _ _
    exact(h1.trans h).trans h2.symm
  .have:=hw (k+1) e' l' (by simpa using hk) hr
   rw[show i+1+k=i+(k+1) by omega];exact this
theorem Zrk {L:Nat->Bool}{r:Nat}:∀(es:List (S.Eff×List Nat)) (i k:Nat) (s s':S.St) (e:S.Eff) (l:List Nat),es[k]?=some (e,l)->r∈e.writes->L (i+k)=true->(∀j e' l',k<j->es[j]?=some (e',l')->r∈e'.writes->L (i+j)=false)->S.same r (S.stL L es i s) (e.apply s')
 | [],i,k,s,s',e,l,hk,_,_,_=>by simp at hk
 | (e0,l0)::es,i,0,s,s',e,l,hk,hr,hL,hn=>by
  simp at hk;obtain⟨rfl,rfl⟩:=hk;unfold S.stL;rw[Ybd] at hL;rw[if_pos hL];have key:∀(es:List (S.Eff×List Nat)) (i:Nat) (s:S.St),(∀j e' l',es[j]?=some (e',l')->r∈e'.writes->L (i+j)=false)->S.same r (S.stL L es i s) s:=by
   intro es
   induction es with
   | nil=>intro i s _;exact S.same.refl _ _
   | cons p es ih =>
    obtain⟨e1,l1⟩:=p;intro i s h;unfold S.stL;refine(ih (i+1) _ λ j e' l' hj hr=>?_).trans ?_
    .have:=h (j+1) e' l' (by simpa using hj) hr
     rw[show i+1+j=i+(j+1) by omega];exact this
    .split
     .rename_i c
      refine Zdd (λ hm=>?_) s;have:=h 0 e1 l1 rfl hm;rw[Ybd,c] at this
      cases this
     .exact S.same.refl _ _
  refine(key es (i+1) _ λ j e' l' hj hr'=>?_).trans (Zon hr _ _);have:=hn (j+1) e' l' (by omega) (by simpa using hj) hr';rw[show i+1+j=i+(j+1) by omega];exact this
 | (e0,l0)::es,i,k+1,s,s',e,l,hk,hr,hL,hn=>by
  unfold S.stL;refine Zrk es (i+1) k _ s' e l (by simpa using hk) hr ?_ λ j e' l' hj hjk hr'=>?_
  .rw[show i+1+k=i+(k+1) by omega];exact hL
  .have:=hn (j+1) e' l' (by omega) (by simpa using hjk) hr'
   rw[show i+1+j=i+(j+1) by omega];exact this
namespace S
def befs:List Oper->List Nat->List Nat
 | [],acc=>acc
 | o::r,acc=>befs r (acc++[o.after.toList.foldl (λ m e=>if Yb1 .any e then m ||| (2^e.on) ||| acc.getD e.on 0 else m) 0])
def meets (a b:List Nat):Bool:=a.any λ x=>b.any λ y=>Nat.beq x y
def apart1 (e:Eff)(rs:List Nat)(i:Nat):List (Eff×List Nat)->List Nat->Bool
 | (e',rs')::r,b::br=>(b.testBit i || (!meets e.writes (rs'++e'.writes) && !meets e'.writes rs)) && apart1 e rs i r br
 | _,_=>true
def apartB:List (Eff×List Nat)->List Nat->Nat->Bool
 | (e,rs)::r,_::br,i=>apart1 e rs i r br && apartB r br (i+1)
 | _,_,_=>true
end S
theorem Zja {a b:List Nat}(h:S.meets a b=false){x:Nat}(hx:x∈a):x ∉ b:=λ hb=>by
 have h1:S.meets a b=true:=Ybx.2 ⟨x,hx,Ybx.2 ⟨x,hb,by rw[Nat.beq_eq]⟩⟩;rw[h] at h1
 cases h1
theorem Zoo {e:S.Eff}{rs:List Nat}{i:Nat}:∀(es:List (S.Eff×List Nat)) (bs:List Nat),S.apart1 e rs i es bs=true->∀(k:Nat)(e':S.Eff)(rs':List Nat)(b:Nat),es[k]?=some (e',rs')->bs[k]?=some b->b.testBit i=true\/(S.meets e.writes (rs'++e'.writes)=false/\S.meets e'.writes rs=false)
 | [],_,_,k,e',rs',b,hk,_=>by simp at hk
 | _::_,[],_,k,e',rs',b,_,hb=>by simp at hb
 | (e1,r1)::es,b1::bs,h,k,e',rs',b,hk,hb=>by
  simp only[S.apart1,Yt,Ycc,Bool.not_eq_true'] at h
  cases k with
  | zero =>
   simp at hk hb;obtain⟨rfl,rfl⟩:=hk;subst hb;exact h.1
  | succ k=>exact Zoo es bs h.2 k e' rs' b (by simpa using hk) (by simpa using hb)
theorem Zjb:∀(es:List (S.Eff×List Nat)) (bs:List Nat) (i:Nat),S.apartB es bs i=true->∀(j k:Nat)(e:S.Eff)(rs:List Nat)(e':S.Eff)(rs':List Nat)(b:Nat),j<k->es[j]?=some (e,rs)->es[k]?=some (e',rs')->bs[k]?=some b->b.testBit (i+j)=true\/(S.meets e.writes (rs'++e'.writes)=false/\S.meets e'.writes rs=false)
 | [],_,_,_,j,k,e,rs,e',rs',b,_,hj,_,_=>by simp at hj
 | _::_,[],_,_,j,k,e,rs,e',rs',b,_,_,_,hb=>by simp at hb
 | (e1,r1)::es,b1::bs,i,h,j,k,e,rs,e',rs',b,hjk,hj,hk,hb=>by
  simp only[S.apartB,Yt] at h;obtain⟨k,rfl⟩:∃k',k=k'+1:=⟨k-1,by omega⟩
  cases j with
  | zero =>
   simp at hj;obtain⟨rfl,rfl⟩:=hj;rw[Ybd];exact Zoo es bs h.1 k e' rs' b (by simpa using hk) (by simpa using hb)
  | succ j =>
   rw[show i+(j+1)=i+1+j by omega];exact Zjb es bs (i+1) h.2 j k e rs e' rs' b (by omega) (by simpa using hj) (by simpa using hk) (by simpa using hb)
theorem Zjc:∀(ops:List Oper)(acc:List Nat),(S.befs ops acc).length=acc.length+ops.length
 | [],acc=>rfl
 | o::r,acc=>by rw[S.befs,Zjc r,Yd,Yi,Yi,List.length_nil];omega
theorem Zjd {ops:Array Oper}{C:Nat->Nat->Prop}:∀(pre:List Oper)(rest:List Oper)(acc:List Nat),ops.toList=pre++rest->acc.length=pre.length ->
 (∀i b,acc[i]?=some b->∀j,b.testBit j=true->C i j) ->
 (∀i j,Ybp .any ops i j=true->C i j)->(∀i j k,Ybp .any ops i j=true->C j k->C i k)->∀i b,(S.befs rest acc)[i]?=some b->∀j,b.testBit j=true->C i j
 | pre,[],acc,_,_,h,_,_=>h
 | pre,o::r,acc,e,hl,h,h1,h2=>by
  rw[S.befs];refine Zjd (pre++[o]) r _ (by rw[e];simp) (by simp[hl]) (λ i b hi j hj=>?_) h1 h2;by_cases c:i<acc.length
  .rw[Ym c] at hi
   exact h i b hi j hj
  .rw[Yo (by omega)] at hi
   have hi0:i-acc.length=0:=by
    have:=(Yg.1 hi).1;simp at this;omega
   rw[hi0,Ya0] at hi;have hi:=Option.some.inj hi;have hio:ops[i]?=some o:=by
    rw[<- Array.getElem?_toList,e,Yo (by omega)];have:i-pre.length=0:=by omega
    rw[this];rfl
   have key:∀(l:List Edge)(m:Nat),(∀e'∈l,Yb1 .any e'=true->Ybp .any ops i e'.on=true)->(∀j,m.testBit j=true->C i j) ->
    ∀j,(l.foldl (λ m e=>if Yb1 .any e then m ||| (2^e.on) ||| acc.getD e.on 0 else m) m).testBit j=true->C i j:=by
    intro l
    induction l with
    | nil=>intro m _ hm;exact hm
    | cons e' l ih =>
     intro m hl hm;rw[List.foldl_cons];refine ih _ (λ x hx=>hl x (Yw _ hx)) λ j hj=>?_
     split at hj
     .rename_i hb
      have hw:=hl e' Yu hb;rw[Nat.testBit_or,Nat.testBit_or,Ycc,Ycc] at hj;rcases hj with(hj|hj) | hj
      .exact hm j hj
      .rw[Nat.testBit_two_pow] at hj
       have:e'.on=j:=by simpa using hj
       rw[<- this];exact h1 i e'.on hw
      .rw[Ye] at hj
       cases ha:acc[e'.on]? with
       | none=>rw[ha] at hj;simp at hj
       | some b' =>
        rw[ha] at hj;exact h2 i e'.on j hw (h e'.on b' ha j (by simpa using hj))
     .exact hm j hj
   subst hi;refine key o.after.toList 0 (λ e' he hb=>?_) (λ j hj=>by simp at hj) j hj;unfold Ybp;rw[hio];simp only
   first|exact Ybx.2 ⟨e',he,by simp[hb]⟩ | (simp only[Array.any_eq_true'];exact⟨e',by simpa using he,by simp[hb]⟩)
theorem Zze {es:List (S.Eff×List Nat)}{bs:List Nat}(hA:S.apartB es bs 0=true)(hl:bs.length=es.length){L:Nat->Bool}(hcl:∀k b,bs[k]?=some b->L k=true->∀j,b.testBit j=true->L j=true)
 {i:Nat} {e:S.Eff} {rs:List Nat} (hi:es[i]?=some (e,rs)) (hun:L i=false) (hb:∀b,bs[i]?=some b->∀j,b.testBit j=true->L j=true) (s0:S.St) :
 (∀r∈rs,S.same r (S.stL (λ k=>decide (k<i)) es 0 s0) (S.stL L es 0 s0))/\S.stL (λ k=>if k=i then true else L k) es 0 s0=e.apply (S.stL L es 0 s0):=by
 have bits:∀k,k<es.length->∃b,bs[k]?=some b:=λ k hk=>⟨bs[k],List.getElem?_eq_getElem (by omega)⟩
 have hlt:∀{k:Nat} {x:S.Eff×List Nat},es[k]?=some x->k<es.length:=λ h=>(Yg.1 h).1
 have hbehind:∀k e' l',i<k->es[k]?=some (e',l')->L k=true->S.meets e.writes (l'++e'.writes)=false/\S.meets e'.writes rs=false:=λ k e' l' hik hk hL=>by
  obtain⟨b,hbk⟩:=bits k (hlt hk);rcases Zjb es bs 0 hA i k e rs e' l' b hik hi hk hbk with h|h
  .rw[Y9] at h
   have:=hcl k b hbk hL i h;rw[hun] at this
   cases this
  .exact h
 refine⟨λ r hr=>?_,Z0q λ r=>?_⟩
 .refine Zgg es 0 s0 s0 (S.same.refl _ _) λ k e' l' hk hw=>?_
  rw[Y9];rcases Nat.lt_trichotomy k i with h|h|h
  .rw[decide_eq_true h]
   obtain⟨b,hbi⟩:=bits i (hlt hi);rcases Zjb es bs 0 hA k i e' l' e rs b h hk hi hbi with h1|h1
   .rw[Y9] at h1
    exact(hb b hbi k h1).symm
   .exact absurd (Ya5 _ hr) (Zja h1.1 hw)
  .subst h
   rw[hun];exact decide_eq_false (Nat.lt_irrefl _)
  .rw[decide_eq_false (by omega)]
   cases hL:L k with
   | false=>rfl
   | true=>exact absurd hr (Zja (hbehind k e' l' h hk hL).2 hw)
 .by_cases c:r∈e.writes
  .refine Zrk es 0 i s0 (S.stL L es 0 s0) e rs hi c (by rw[Y9,if_pos rfl]) λ j e' l' hj hjk hw=>?_
   rw[Y9,if_neg (by omega)]
   cases hL:L j with
   | false=>rfl
   | true=>exact absurd (Ybh _ hw) (Zja (hbehind j e' l' hj hjk hL).1 c)
  .refine(Zgg es 0 s0 s0 (S.same.refl _ _) λ k e' l' hk hw=>?_).trans (Zdd c _).symm
   rw[Y9]
   split
   .rename_i h
    subst h;rw[hi] at hk
    cases hk
    exact absurd hw c
   .rfl
end
