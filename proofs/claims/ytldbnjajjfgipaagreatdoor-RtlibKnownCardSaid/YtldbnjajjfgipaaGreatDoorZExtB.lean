/- Parts. -/
import Derived.Test.YtldbnjajjfgipaaGreatDoorZAsmA
import Derived.Test.YtldbnjajjfgipaaGreatDoorZQa
import Derived.BigQuiet
import Derived.Deep.QuietTactic
import Derived.Deep.DeepCutAuto
set_option linter.all false
set_option maxHeartbeats 2000000
open Go.Lib renaming hid->Ya
open List renaming getElem?_eq_getElem->Ye,getElem?_eq_some_iff->Yg,getElem?_append_left->Ym,getElem?_append_right->Yn,mem_cons->Yu,getElem?_cons_zero->Yao
open Nat renaming lt_of_lt_of_le->Yr
namespace Go.Proofs.YtldbnjajjfgipaaGreatDoor
open S Go.Proofs.Tryz Go.RowKit
set_option maxRecDepth 100000
def Zek (xs:List S.Item)(F:List Int)(base:Int)(n:Nat):List Int:=(List.range n).map (addr xs F base)
theorem Zbd (xs:List S.Item)(F:List Int)(base:Int)(n k:Nat)(h:k<n):(Zek xs F base n).getD k 0=addr xs F base k:=by simp[Zek,h]
theorem Zfp (xs:List S.Item)(F:List Int)(base:Int)(n:Nat):(Zek xs F base n).length=n:=by simp[Zek]
theorem Zgw {xs:List S.Item}{F:List Int}{base:Int}(hd:¬Dup xs):∀(n q:Nat)(s:ByteArray)(v:Int),(placesTo xs F base n)[q]?=some (s,v) ->
 ∃j:Nat,stands xs s=j/\v=addr xs F base j/\j<n
 | 0,q,s,v,h=>by simp[placesTo] at h
 | n+1,q,s,v,h=>by
  rw[placesTo] at h;by_cases a:q<(placesTo xs F base n).length
  .rw[Ym a] at h
   obtain⟨j,b,c,h3⟩:=Zgw hd n q s v h;exact⟨j,b,c,by omega⟩
  .rw[Yn (by omega)] at h
   unfold placeAt at h
   cases hx:xs[n]? with
   | none=>simp[hx] at h
   | some x =>
    simp only[hx] at h
    split at h
    .rename_i hk
     have h0:q-(placesTo xs F base n).length=0:=by
      have:=(Yg.1 h).1;simp at this;omega
     rw[h0] at h;simp only[Yao,Option.some.injEq,Prod.mk.injEq] at h;refine⟨n,?_,h.2.symm,by omega⟩;rw[<- h.1];by_cases e:stands xs x.label=n
     .exact e
     .exact absurd ⟨n,x,hx,hk,e⟩ hd
    .simp at h
theorem Zis {xs:List S.Item}{F:List Int}{base:Int}{j:Nat}{s:ByteArray}(d:stands xs s=j):∀n:Nat,j<n->∃q:Nat,(placesTo xs F base n)[q]?=some (s,addr xs F base j)
 | 0,h=>by omega
 | n+1,h=>by
  rw[placesTo];by_cases c:j<n
  .obtain⟨q,hq⟩:=Zis d n c
   refine⟨q,?_⟩;rw[Ym (Yg.1 hq).1];exact hq
  .have e:j=n:=by omega
   subst e;rcases Zag xs s with⟨a,_⟩|⟨i,y,a,f,b,g,_⟩
   .omega
   .have:i=j:=by omega
    subst this;refine⟨(placesTo xs F base i).length,?_⟩;rw[Yn (by omega),Nat.sub_self];simp[placeAt,f,b,g]
theorem Zu9 (s:ByteArray)(h:0<s.size):ownB s=(s[0]==46):=by
 unfold ownB;have e:s.data.toList.head?=some s[0]:=by
  rw[List.head?_eq_getElem?,Ye (by simpa using h)];rfl
 rw[e];rfl
theorem Zre (s:ByteArray)(h:s.size=0):ownB s=false:=by
 unfold ownB;have e:s.data.toList=[]:=List.eq_nil_of_length_eq_zero (by simpa using h);rw[e];rfl
theorem Zx9 (s:ByteArray)(h:0<s.size):((s.extract 0 1).toList==[46])=ownB s:=by
 rw[Zu9 s h];have e:(s.extract 0 1).toList=[s[0]]:=by
  rw[ByteArray.toList_eq,ByteArray.data_extract]
  apply List.ext_getElem
  .simp;omega
  .intro i h1 h2
   simp at h2;subst h2;simp;rfl
 rw[e];simp
theorem Zif (s:ByteArray)(w:World)(a:s.size<=maxLen) :
 Calls prog 234 #[.string s,.string ⟨#[46]⟩] w λ e w'=>e=.returned (.bool (ownB s))/\w=w':=by
 unfold maxLen at a;by_cases h:0<s.size
 .go_enter func234,ntmps234
  go_wp2_with fail
  go_ret
  exact⟨Zf (Zx9 s h),rfl⟩
 .go_enter func234,ntmps234
  go_wp2_with fail
  go_ret
  exact⟨Zf (Zre s (by omega)).symm,rfl⟩
theorem Z9 (s:ByteArray)(w:World)(a:s.size<=maxLen) :
 Calls prog 188 #[.string s,.string ⟨#[46]⟩] w λ e w'=>e=.returned (.bool (ownB s))/\w=w':=by
 go_enter func188,ntmps188
 go_wp2_with fail
 refine(Zif _ _ a).mono ?_;rintro e w' ⟨rfl,rfl⟩;go_wp2_with fail
 go_ret
 exact⟨rfl,rfl⟩
theorem Zo8 (n s:ByteArray)(w:World)(a:s.size<=maxLen)(b:n.size+s.size<=9223372036854775807) :
 Calls prog 192 #[.string n,.string s] w λ e w'=>e=.returned (.string (owned n s))/\w=w':=by
 cases ho:ownB s
 .have H:=Ya ho
  clear ho;go_enter func192,ntmps192
  go_wp2_with fail
  refine(Z9 _ _ a).mono ?_;rintro e w' ⟨rfl,rfl⟩;rw[H.out];go_wp2_with fail
  go_ret
  exact⟨by simp[owned,H.out],rfl⟩
 .have H:=Ya ho
  clear ho;go_enter func192,ntmps192
  go_wp2_with fail
  refine(Z9 _ _ a).mono ?_;rintro e w' ⟨rfl,rfl⟩;rw[H.out];go_wp2_with fail
  go_ret
  exact⟨by simp[owned,H.out],rfl⟩
mutual
def ECell (w:World)(B b o:Nat):BE->Prop
 | .mk op n name kids=>w.cell? ⟨b,o,none⟩=some (.int .i64 op)/\w.cell? ⟨b,o+1,none⟩=some (.int .i64 n)/\w.cell? ⟨b,o+2,none⟩=some (.string name)/\name.size<=maxLen/\kids.length<=maxLen /\
  ∃A c,w.cell? ⟨b,o+3,none⟩=some (.slice A kids.length c)/\(kids=[]\/∃b' off,A=some ⟨b',off,none⟩/\b'<B/\EKids w B b' off kids)
def EKids (w:World)(B b o:Nat):List BE->Prop
 | []=>True
 | e::r=>ECell w B b o e/\EKids w B b (o+4) r
end
def EList (w:World)(B:Nat)(A:Option Addr)(l:List BE):Prop:=l=[]\/∃b off,A=some ⟨b,off,none⟩/\b<B/\EKids w B b off l
def Z30 (w:World)(B:Nat)(e:BE)(v:Value):Prop :=
 ∃A c,v=.agg #[.int .i64 e.op,.int .i64 e.n,.string e.name,.slice A e.kids.length c]/\e.name.size<=maxLen/\e.kids.length<=maxLen/\EList w B A e.kids
mutual
theorem ECell.below {w w':World}{B b o:Nat}(d:Below B w w')(a:b<B):∀{e:BE},ECell w B b o e->ECell w' B b o e
 | .mk op n name kids,h=>by
  rw[ECell] at h⊢;obtain⟨l,m,r,s,k,A,c,j,g⟩:=h;refine⟨(d.cell (p:=⟨b,_,none⟩) a).trans l,(d.cell (p:=⟨b,_,none⟩) a).trans m,(d.cell (p:=⟨b,_,none⟩) a).trans r,s,k,A,c,(d.cell (p:=⟨b,_,none⟩) a).trans j,?_⟩;rcases g with g|⟨t,off,q,i,f⟩
  .exact .inl g
  .exact .inr ⟨t,off,q,i,EKids.below d i f⟩
theorem EKids.below {w w':World}{B b o:Nat}(c:Below B w w')(a:b<B):∀{l:List BE},EKids w B b o l->EKids w' B b o l
 | [],_=>by rw[EKids];trivial
 | e::r,h=>by
  rw[EKids] at h⊢;exact⟨ECell.below c a h.1,EKids.below c a h.2⟩
end
mutual
theorem ECell.more {w:World}{B B' b o:Nat}(f:B<=B'):∀{e:BE},ECell w B b o e->ECell w B' b o e
 | .mk op n name kids,h=>by
  rw[ECell] at h⊢;obtain⟨k,l,p,q,j,A,c,g,d⟩:=h;refine⟨k,l,p,q,j,A,c,g,?_⟩;rcases d with d|⟨r,off,m,i,a⟩
  .exact .inl d
  .exact .inr ⟨r,off,m,Yr i f,EKids.more f a⟩
theorem EKids.more {w:World}{B B' b o:Nat}(a:B<=B'):∀{l:List BE},EKids w B b o l->EKids w B' b o l
 | [],_=>by rw[EKids];trivial
 | e::r,h=>by
  rw[EKids] at h⊢;exact⟨ECell.more a h.1,EKids.more a h.2⟩
end
theorem EList.below {w w':World}{B:Nat}{A:Option Addr}{l:List BE}(h:EList w B A l)(c:Below B w w'):EList w' B A l:=by
 rcases h with h|⟨b,off,d,a,e⟩
 .exact .inl h
 .exact .inr ⟨b,off,d,a,e.below c a⟩
theorem EList.more {w:World}{B B':Nat}{A:Option Addr}{l:List BE}(h:EList w B A l)(a:B<=B'):EList w B' A l:=by
 rcases h with h|⟨b,off,c,e,d⟩
 .exact .inl h
 .exact .inr ⟨b,off,c,Yr e a,d.more a⟩
theorem EKids.at_ {w:World}{B b:Nat}:∀{l:List BE} {o k:Nat} {e:BE},EKids w B b o l->l[k]?=some e->ECell w B b (o+k*4) e
 | [],o,k,e,_,h=>by simp at h
 | x::r,o,0,e,hk,h=>by
  rw[EKids] at hk;simp only[Yao,Option.some.injEq] at h;subst h
  simpa using hk.1
 | x::r,o,k+1,e,hk,h=>by
  rw[EKids] at hk;have:=EKids.at_ hk.2 (k:=k) (by simpa using h);have a:o+4+k*4=o+(k+1)*4:=by omega
  rw[a] at this;exact this
theorem EList.at_ {w:World}{B:Nat}{A:Option Addr}{l:List BE}(h:EList w B A l){k:Nat}{e:BE}(d:l[k]?=some e) :
 ∃b off a c,A=some ⟨b,off,none⟩/\b<B/\w.cell? ⟨b,off+k*4,none⟩=some (.int .i64 e.op)/\w.cell? ⟨b,off+k*4+1,none⟩=some (.int .i64 e.n)/\w.cell? ⟨b,off+k*4+2,none⟩=some (.string e.name) /\
  w.cell? ⟨b,off+k*4+3,none⟩=some (.slice a e.kids.length c)/\e.name.size<=maxLen/\e.kids.length<=maxLen/\EList w B a e.kids:=by
 rcases h with h|⟨b,off,j,m,q⟩
 .subst h;simp at d
 .have h4:=q.at_ d
  obtain⟨op,n,name,kids⟩:=e;rw[ECell] at h4;obtain⟨p,r,o,s,i,a,c,f,g⟩:=h4;exact⟨b,off,a,c,j,m,p,r,o,f,s,i,g⟩
mutual
def SCell (w:World)(B b o:Nat):BS->Prop
 | .mk op n name exprs regs body els=>w.cell? ⟨b,o,none⟩=some (.int .i64 op)/\w.cell? ⟨b,o+1,none⟩=some (.int .i64 n)/\w.cell? ⟨b,o+2,none⟩=some (.string name)/\name.size<=maxLen/\exprs.length<=maxLen/\regs.length<=maxLen/\body.length<=maxLen/\els.length<=maxLen /\
  (∃A c,w.cell? ⟨b,o+3,none⟩=some (.slice A exprs.length c)/\EList w B A exprs)/\(∃A c,w.cell? ⟨b,o+4,none⟩=some (.slice A regs.length c)/\Ints w B A regs) /\
  (∃A c,w.cell? ⟨b,o+5,none⟩=some (.slice A body.length c)/\(body=[]\/∃b' off,A=some ⟨b',off,none⟩/\b'<B/\SKids w B b' off body)) /\
  (∃A c,w.cell? ⟨b,o+6,none⟩=some (.slice A els.length c)/\(els=[]\/∃b' off,A=some ⟨b',off,none⟩/\b'<B/\SKids w B b' off els))
def SKids (w:World)(B b o:Nat):List BS->Prop
 | []=>True
 | s::r=>SCell w B b o s/\SKids w B b (o+7) r
end
def SList (w:World)(B:Nat)(A:Option Addr)(l:List BS):Prop:=l=[]\/∃b off,A=some ⟨b,off,none⟩/\b<B/\SKids w B b off l
mutual
theorem SCell.below {w w':World}{B b o:Nat}(c:Below B w w')(a:b<B):∀{s:BS},SCell w B b o s->SCell w' B b o s
 | .mk op n name exprs regs body els,h=>by
  rw[SCell] at h⊢;obtain⟨l,r,x,y,k,e,z,v,⟨A,c1,u,f⟩,⟨i,c2,g,t⟩,⟨m,c3,d1,d2⟩,⟨q,c4,j,d⟩⟩:=h;refine⟨(c.cell (p:=⟨b,_,none⟩) a).trans l,(c.cell (p:=⟨b,_,none⟩) a).trans r,(c.cell (p:=⟨b,_,none⟩) a).trans x,y,k,e,z,v,⟨A,c1,(c.cell (p:=⟨b,_,none⟩) a).trans u,f.below c⟩,
   ⟨i,c2,(c.cell (p:=⟨b,_,none⟩) a).trans g,t.below c⟩,⟨m,c3,(c.cell (p:=⟨b,_,none⟩) a).trans d1,?_⟩,⟨q,c4,(c.cell (p:=⟨b,_,none⟩) a).trans j,?_⟩⟩
  .rcases d2 with d2|⟨b',off,q1,q2,q3⟩
   .exact .inl d2
   .exact .inr ⟨b',off,q1,q2,SKids.below c q2 q3⟩
  .rcases d with d|⟨b',off,q1,q2,q3⟩
   .exact .inl d
   .exact .inr ⟨b',off,q1,q2,SKids.below c q2 q3⟩
theorem SKids.below {w w':World}{B b o:Nat}(c:Below B w w')(a:b<B):∀{l:List BS},SKids w B b o l->SKids w' B b o l
 | [],_=>by rw[SKids];trivial
 | e::r,h=>by
  rw[SKids] at h⊢;exact⟨SCell.below c a h.1,SKids.below c a h.2⟩
end
mutual
theorem SCell.more {w:World}{B B' b o:Nat}(a:B<=B'):∀{s:BS},SCell w B b o s->SCell w B' b o s
 | .mk op n name exprs regs body els,h=>by
  rw[SCell] at h⊢;obtain⟨k,p,u,v,j,d,x,t,⟨y,c1,r,e⟩,⟨g,c2,f,q⟩,⟨l,c3,d1,d2⟩,⟨m,c4,i,c⟩⟩:=h;refine⟨k,p,u,v,j,d,x,t,⟨y,c1,r,e.more a⟩,⟨g,c2,f,q.more a⟩,⟨l,c3,d1,?_⟩,⟨m,c4,i,?_⟩⟩
  .rcases d2 with d2|⟨b',off,q1,q2,q3⟩
   .exact .inl d2
   .exact .inr ⟨b',off,q1,Yr q2 a,SKids.more a q3⟩
  .rcases c with c|⟨b',off,q1,q2,q3⟩
   .exact .inl c
   .exact .inr ⟨b',off,q1,Yr q2 a,SKids.more a q3⟩
theorem SKids.more {w:World}{B B' b o:Nat}(a:B<=B'):∀{l:List BS},SKids w B b o l->SKids w B' b o l
 | [],_=>by rw[SKids];trivial
 | e::r,h=>by
  rw[SKids] at h⊢;exact⟨SCell.more a h.1,SKids.more a h.2⟩
end
theorem SList.below {w w':World}{B:Nat}{A:Option Addr}{l:List BS}(h:SList w B A l)(c:Below B w w'):SList w' B A l:=by
 rcases h with h|⟨b,off,d,a,e⟩
 .exact .inl h
 .exact .inr ⟨b,off,d,a,e.below c a⟩
theorem SList.more {w:World}{B B':Nat}{A:Option Addr}{l:List BS}(h:SList w B A l)(a:B<=B'):SList w B' A l:=by
 rcases h with h|⟨b,off,c,e,d⟩
 .exact .inl h
 .exact .inr ⟨b,off,c,Yr e a,d.more a⟩
theorem SKids.at_ {w:World}{B b:Nat}:∀{l:List BS} {o k:Nat} {s:BS},SKids w B b o l->l[k]?=some s->SCell w B b (o+k*7) s
 | [],o,k,e,_,h=>by simp at h
 | x::r,o,0,e,hk,h=>by
  rw[SKids] at hk;simp only[Yao,Option.some.injEq] at h;subst h
  simpa using hk.1
 | x::r,o,k+1,e,hk,h=>by
  rw[SKids] at hk;have:=SKids.at_ hk.2 (k:=k) (by simpa using h);have a:o+7+k*7=o+(k+1)*7:=by omega
  rw[a] at this;exact this
structure SPart (w:World)(B:Nat)(s:BS)(A1 A2 A3 A4:Option Addr):Prop where
 name:s.name.size<=maxLen
 l1:s.exprs.length<=maxLen
 l2:s.regs.length<=maxLen
 l3:s.body.length<=maxLen
 l4:s.els.length<=maxLen
 exprs:EList w B A1 s.exprs
 regs:Ints w B A2 s.regs
 body:SList w B A3 s.body
 els:SList w B A4 s.els
theorem SPart.below {w w':World}{B:Nat}{s:BS}{e b c d:Option Addr}(h:SPart w B s e b c d)(a:Below B w w'):SPart w' B s e b c d :=
 ⟨h.name,h.l1,h.l2,h.l3,h.l4,h.exprs.below a,h.regs.below a,h.body.below a,h.els.below a⟩
theorem SPart.more {w:World}{B B':Nat}{s:BS}{e b d c:Option Addr}(h:SPart w B s e b d c)(a:B<=B'):SPart w B' s e b d c :=
 ⟨h.name,h.l1,h.l2,h.l3,h.l4,h.exprs.more a,h.regs.more a,h.body.more a,h.els.more a⟩
def sVal (s:BS)(A1 A2 A3 A4:Option Addr)(c1 c2 c3 c4:Nat):List Value :=
 [.int .i64 s.op,.int .i64 s.n,.string s.name,.slice A1 s.exprs.length c1,.slice A2 s.regs.length c2,.slice A3 s.body.length c3,.slice A4 s.els.length c4]
theorem SList.at_ {w:World}{B:Nat}{A:Option Addr}{l:List BS}(h:SList w B A l){k:Nat}{s:BS}(f:l[k]?=some s) :
 ∃b off e c1 a c2 c c3 d c4,A=some ⟨b,off,none⟩/\b<B/\w.cell? ⟨b,off+k*7,none⟩=some (.int .i64 s.op)/\w.cell? ⟨b,off+k*7+1,none⟩=some (.int .i64 s.n)/\w.cell? ⟨b,off+k*7+2,none⟩=some (.string s.name) /\
  w.cell? ⟨b,off+k*7+3,none⟩=some (.slice e s.exprs.length c1)/\w.cell? ⟨b,off+k*7+4,none⟩=some (.slice a s.regs.length c2)/\w.cell? ⟨b,off+k*7+5,none⟩=some (.slice c s.body.length c3) /\
  w.cell? ⟨b,off+k*7+6,none⟩=some (.slice d s.els.length c4)/\SPart w B s e a c d:=by
 rcases h with h|⟨b,off,r,u,D⟩
 .subst h;simp at f
 .have h4:=D.at_ f
  obtain⟨op,n,name,exprs,regs,body,els⟩:=s;rw[SCell] at h4;obtain⟨z,E,v,F,o,i,m,t,⟨e,c1,y,g⟩,⟨a,c2,j,x⟩,⟨c,c3,d1,d2⟩,⟨d,c4,p,q⟩⟩:=h4;exact⟨b,off,e,c1,a,c2,c,c3,d,c4,r,u,z,E,v,y,j,d1,p,F,o,i,m,t,g,x,d2,q⟩
mutual
def szE:BE->Nat
 | .mk _ _ _ kids=>1+Zdy kids
def Zdy:List BE->Nat
 | []=>0
 | e::r=>szE e+Zdy r
end
theorem Zju:∀{l:List BE} {e:BE},e∈l->szE e<=Zdy l
 | x::r,e,h=>by
  rw[Zdy];rcases Yu.1 h with rfl|h
  .omega
  .have:=Zju h;omega
theorem Zco (e:BE):szE e=1+Zdy e.kids:=by
 obtain⟨op,n,name,kids⟩:=e;rw[szE];rfl
mutual
def szS:BS->Nat
 | .mk _ _ _ exprs _ body els=>1+Zdy exprs+Zf3 body+Zf3 els
def Zf3:List BS->Nat
 | []=>0
 | s::r=>szS s+Zf3 r
end
theorem Zmw:∀{l:List BS} {s:BS},s∈l->szS s<=Zf3 l
 | x::r,e,h=>by
  rw[Zf3];rcases Yu.1 h with rfl|h
  .omega
  .have:=Zmw h;omega
theorem Zgx (s:BS):szS s=1+Zdy s.exprs+Zf3 s.body+Zf3 s.els:=by
 obtain⟨op,n,name,exprs,regs,body,els⟩:=s;rw[szS];rfl
theorem Zgy (s:ByteArray):(s.toList != ([]:List UInt8))=decide (s.size≠0):=by
 rw[ByteArray.toList_eq]
 cases h:s.data.toList with
 | nil =>
  have:s.size=0:=by show s.data.size=0;rw[<- Array.length_toList,h];rfl
  simp[this]
 | cons x r =>
  have:s.size≠0:=by show s.data.size≠0;rw[<- Array.length_toList,h];simp
  simp[this]
theorem Zmx (s:ByteArray)(w:World)(b:s.size<=maxLen):Calls prog 256 #[.string s] w λ e w'=>e=.returned (.bool (labB s))/\w=w':=by
 have d:=Ya (Zgy s);have c:=Ya (Z9 s w b);by_cases h:s.toList=[]
 .have Hr:=Ya (show labB s=false from by
   have a:decide (s.size≠0)=false:=by rw[<- Zgy s];simp[h]
   show(decide (s.size≠0) && !S.ownB s)=false
   rw[a];rfl)
  clear b;go_enter func256,ntmps256
  go_wp2_with fail
  go_ret
  exact⟨Zf Hr.out.symm,rfl⟩
 .have Hr:=Ya (show labB s=!S.ownB s from by
   have a:decide (s.size≠0)=true:=by rw[<- Zgy s];simp[h]
   show(decide (s.size≠0) && !S.ownB s)=_
   rw[a];rfl)
  clear b;go_enter func256,ntmps256
  go_wp2_with fail
  refine c.out.mono ?_;rintro e w2 ⟨rfl,rfl⟩;go_wp2_with fail
  go_ret
  exact⟨Zf (by rw[Hr.out];simp[h]),rfl⟩
theorem Zn4 (n:Int)(w:World):Calls prog 289 #[.int .i64 n] w λ e w'=>e=.returned (.bool (offB n))/\w=w':=by
 by_cases h:-32768<=n
 .by_cases h2:n<32768
  .have Hr:=Ya (show true=offB n from(decide_eq_true ⟨h,h2⟩).symm)
   go_enter func289,ntmps289
   go_wp2_with fail
   go_ret
   exact⟨Zf Hr.out,rfl⟩
  .have Hr:=Ya (show false=offB n from(decide_eq_false (by omega)).symm)
   go_enter func289,ntmps289
   go_wp2_with fail
   go_ret
   exact⟨Zf Hr.out,rfl⟩
 .have Hr:=Ya (show false=offB n from(decide_eq_false (by omega)).symm)
  go_enter func289,ntmps289
  go_wp2_with fail
  go_ret
  exact⟨Zf Hr.out,rfl⟩
theorem Zel (n:Int)(w:World):Calls prog 290 #[.int .i64 n] w λ e w'=>e=.returned (.bool (visB n))/\w=w':=by
 rcases(show(1<=n/\n<=10)\/n<1\/(10<n/\n<26)\/n=26\/n=27\/n=28\/n=29\/n=30\/30<n by omega) with⟨h,h'⟩|h|⟨h,h'⟩|rfl|rfl|rfl|rfl|rfl|h
 .have Hr:=Ya (show true=visB n from(decide_eq_true (.inl ⟨h,h'⟩)).symm)
  go_enter func290,ntmps290
  go_wp2_with fail
  go_ret
  exact⟨Zf Hr.out,rfl⟩
 .have Hr:=Ya (show false=visB n from(decide_eq_false (by omega)).symm)
  have d:(n==26)=false:=by simp;omega
  have b:(n==27)=false:=by simp;omega
  have c:(n==29)=false:=by simp;omega
  have a:(n==30)=false:=by simp;omega
  go_enter func290,ntmps290
  go_wp2_with fail
  go_ret
  first
   | exact⟨Zf Hr.out,rfl⟩
   | exact⟨Zf ((decide_eq_false (by omega)).trans Hr.out),rfl⟩
 .have Hr:=Ya (show false=visB n from(decide_eq_false (by omega)).symm)
  have d:(n==26)=false:=by simp;omega
  have b:(n==27)=false:=by simp;omega
  have c:(n==29)=false:=by simp;omega
  have a:(n==30)=false:=by simp;omega
  go_enter func290,ntmps290
  go_wp2_with fail
  go_ret
  first
   | exact⟨Zf Hr.out,rfl⟩
   | exact⟨Zf ((decide_eq_false (by omega)).trans Hr.out),rfl⟩
 .go_enter func290,ntmps290
  go_wp2_with fail
  go_ret
  exact⟨Zf rfl,rfl⟩
 .go_enter func290,ntmps290
  go_wp2_with fail
  go_ret
  exact⟨Zf rfl,rfl⟩
 .go_enter func290,ntmps290
  go_wp2_with fail
  go_ret
  exact⟨Zf rfl,rfl⟩
 .go_enter func290,ntmps290
  go_wp2_with fail
  go_ret
  exact⟨Zf rfl,rfl⟩
 .go_enter func290,ntmps290
  go_wp2_with fail
  go_ret
  exact⟨Zf rfl,rfl⟩
 .have Hr:=Ya (show false=visB n from(decide_eq_false (by omega)).symm)
  have d:(n==26)=false:=by simp;omega
  have b:(n==27)=false:=by simp;omega
  have c:(n==29)=false:=by simp;omega
  have a:(n==30)=false:=by simp;omega
  go_enter func290,ntmps290
  go_wp2_with fail
  go_ret
  first
   | exact⟨Zf Hr.out,rfl⟩
   | exact⟨Zf ((decide_eq_false (by omega)).trans Hr.out),rfl⟩
def Zva (l:List Int)(k:Nat):Prop:=∀j,j<k->visB (l.getD j 0)=true/\(0<j->l.getD (j-1) 0<l.getD j 0)
theorem Zit:∀(l:List Int),risingB l=true↔Zva l l.length
 | []=>by
  constructor
  .intro _ j c;simp at c
  .intro _;rfl
 | [a]=>by
  rw[risingB]
  constructor
  .intro h j c
   have:j=0:=by simpa using c
   subst this;exact⟨h,by omega⟩
  .intro h;exact(h 0 (by simp)).1
 | a::b::r=>by
  rw[risingB];simp only[Bool.and_eq_true,decide_eq_true_eq];rw[Zit (b::r)]
  constructor
  .rintro⟨⟨h1,h2⟩,h3⟩ j c
   rcases j with _|j
   .exact⟨h1,by omega⟩
   .obtain⟨d,e⟩:=h3 j (by simpa using c)
    refine⟨d,λ _=>?_⟩;rcases j with _|j
    .exact h2
    .exact e (by omega)
  .intro h
   refine⟨⟨(h 0 (by simp)).1,(h 1 (by simp)).2 (by omega)⟩,λ j c=>?_⟩;obtain⟨d,e⟩:=h (j+1) (by simpa using c);refine⟨d,λ hp=>?_⟩;have:=e (by omega);rcases j with _|j
   .omega
   .exact this
theorem Zvb (A:Option Addr)(c:Nat)(l:List Int)(w:World)(hA:Ints w w.heap.size A l)(B:l.length<=maxLen):Calls prog 291 #[.slice A l.length c] w λ e w'=>e=.returned (.bool (risingB l))/\w=w':=by
 unfold maxLen at B;obtain⟨N,r⟩:=Yx l.length;rw[<- r] at B⊢;have F:=Ya r;have d:=Ya (Zit l);clear r;go_enter func291,ntmps291
 go_wp2_with fail
 go_loopw [3,4,7] (λ _ _ p wr=>∃k:Nat,k<=N/\p=.int .i64 k/\w=wr/\Hid (Zva l k)) (λ _ _ p _=>N-(intOf p).toNat)
 case atStart=>exact⟨0,by omega,rfl,rfl,Ya λ j D=>by omega⟩
 case round =>
  obtain⟨k,hk,rfl,rfl,E⟩:=hrel;by_cases t:k<N
  .have hkl:k<l.length:=by rw[<- F.out];exact t
   obtain⟨b,off,rfl,G,n⟩:=hA.two (by omega);obtain⟨x,m⟩:∃x,l[k]?=some x:=⟨_,Ye hkl⟩
   have s:=n k x m;have a:l.getD k 0=x:=by simp[m]
   cases hv:visB x with
   | false =>
    have q:=Ya (show risingB l=false from by
     rw[<- Bool.not_eq_true,d.out];intro h;have:=(h k hkl).1;rw[a,hv] at this
     cases this)
    have Hv:=Ya (Zel x w);rw[hv] at Hv;clear hv a m n;go_wp2_with fail
    refine Hv.out.mono ?_;rintro e u ⟨rfl,rfl⟩;go_wp2_with fail
    go_ret
    exact⟨Zf q.out.symm,rfl⟩
   | true =>
    have Hv:=Ya (Zel x w);rw[hv] at Hv;by_cases i:k=0
    .subst i
     rw[Nat.add_zero] at s;have g:=Ya (show Zva l 1 from λ j D=>by
      have:j=0:=by omega
      subst this;exact⟨by rw[a];exact hv,by omega⟩)
     clear hv a m n;go_wp2_with fail
     refine Hv.out.mono ?_;rintro e u ⟨rfl,rfl⟩;go_wp2_with fail
     go_roundw
     case rel=>exact⟨1,by omega,by first|rfl|go_num,by first|rfl|trivial,g⟩
     case measure=>simp[intOf];omega
    .obtain⟨y,hy⟩:∃y,l[k-1]?=some y:=⟨_,Ye (by omega)⟩
     have H:=n (k-1) y hy;have f:l.getD (k-1) 0=y:=by simp[hy]
     have z:0<k:=by omega
     have et:((k:Int)-1).toNat=k-1:=by omega
     have eo:off+((k:Int)-1).toNat=off+(k-1):=by omega
     by_cases o:y<x
     .have g:=Ya (show Zva l (k+1) from λ j D=>by
       by_cases v:j=k
       .subst v
        exact⟨by rw[a];exact hv,λ _=>by rw[a,f];exact o⟩
       .exact E.out j (by omega))
      clear hv a f m hy n i;go_wp2_with fail
      refine Hv.out.mono ?_;rintro e u ⟨rfl,rfl⟩;go_wp2_with fail
      go_roundw
      case rel=>exact⟨k+1,by omega,by go_num,by first|rfl|trivial,g⟩
      case measure=>simp[intOf];omega
     .have q:=Ya (show risingB l=false from by
       rw[<- Bool.not_eq_true,d.out];intro h;have:=(h k hkl).2 z;rw[a,f] at this;exact o this)
      clear hv a f m hy n i;go_wp2_with fail
      refine Hv.out.mono ?_;rintro e u ⟨rfl,rfl⟩;go_wp2_with fail
      go_ret
      exact⟨Zf q.out.symm,rfl⟩
  .have hkN:k=N:=by omega
   subst hkN;go_wp2_with fail
   go_ret
   refine⟨?_,rfl⟩;have:risingB l=true:=by rw[d.out,<- F.out];exact E.out
   exact Zf this.symm
section
section
variable {P:Program}{ops:Array Oper}{md:Region.Mode}{C:World->Prop}
def Z2e (md:Region.Mode)(ops:Array Oper)(n:Nat):Nat->Nat->Array Bool->Bool
 | 0,_,listed=>(Region.ready md ops listed).all λ j=>decide (n<=j)
 | f+1,k,listed=>(Region.ready md ops listed).contains k && Region.free md ops listed k && Z2e md ops n f (k+1) (listed.setIfInBounds k true)
def Zrf:Nat->Nat->Array Bool->Array Bool
 | 0,_,listed=>listed
 | f+1,k,listed=>Zrf f (k+1) (listed.setIfInBounds k true)
end
end
