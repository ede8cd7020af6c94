/- Parts. -/
import Derived.Test.YtlldagdhlfpihaaGreatDoorZBGo
import Derived.Test.YtlldagdhlfpihaaGreatDoorZLinkB
import Derived.Test.YtlldagdhlfpihaaGreatDoorZBSnd
import Derived.Test.YtlldagdhlfpihaaGreatDoorZIsaD
import Derived.Test.YtlldagdhlfpihaaGreatDoorShelf
import Derived.BigQuiet
import Derived.Deep.QuietTactic
import Derived.Deep.DeepCutAuto
set_option linter.unusedVariables false
set_option linter.unusedSimpArgs false
set_option linter.unusedSectionVars false
namespace Go.Proofs.YtlldagdhlfpihaaGreatDoor
set_option maxRecDepth 100000
section
open Go.RowKit
mutual
def ECell (w:World) (B b o:Nat):S.BE->Prop
 | .mk op n name kids=>w.cell? ⟨b,o,none⟩=some (.int .i64 op)/\w.cell? ⟨b,o+1,none⟩=some (.int .i64 n)/\w.cell? ⟨b,o+2,none⟩=some (.string name)/\name.size<=maxLen/\kids.length<=maxLen /\
  ∃ A c,w.cell? ⟨b,o+3,none⟩=some (.slice A kids.length c)/\(kids=[]\/∃ b' off,A=some ⟨b',off,none⟩/\b'<B/\EKids w B b' off kids)
def EKids (w:World) (B b o:Nat):List S.BE->Prop
 | []=>True
 | e::r=>ECell w B b o e/\EKids w B b (o+4) r
end
def EList (w:World) (B:Nat) (A:Option Addr) (l:List S.BE):Prop:=l=[]\/∃ b off,A=some ⟨b,off,none⟩/\b<B/\EKids w B b off l
def EVal (w:World) (B:Nat) (e:S.BE) (v:Value):Prop :=
 ∃ A c,v=.agg #[.int .i64 e.op,.int .i64 e.n,.string e.name,.slice A e.kids.length c]/\e.name.size<=maxLen/\e.kids.length<=maxLen/\EList w B A e.kids
mutual
theorem ECell.below {w w':World}{B b o:Nat}(hb:Below B w w') (hlt:b<B):∀ {e:S.BE},ECell w B b o e->ECell w' B b o e
 | .mk op n name kids,h=>by
  rw [ECell] at h ⊢
  obtain ⟨h1,h2,h3,h4,h5,A,c,h6,h7⟩:=h
  refine ⟨(hb.cell (p:=⟨b,_,none⟩) hlt).trans h1,(hb.cell (p:=⟨b,_,none⟩) hlt).trans h2,(hb.cell (p:=⟨b,_,none⟩) hlt).trans h3,h4,h5,A,c,(hb.cell (p:=⟨b,_,none⟩) hlt).trans h6,?_⟩
  rcases h7 with h7 | ⟨b',off,h8,h9,h10⟩
  ·exact .inl h7
  ·exact .inr ⟨b',off,h8,h9,EKids.below hb h9 h10⟩
theorem EKids.below {w w':World}{B b o:Nat}(hb:Below B w w') (hlt:b<B):∀ {l:List S.BE},EKids w B b o l->EKids w' B b o l
 | [],_=>by rw [EKids];trivial
 | e::r,h=>by
  rw [EKids] at h ⊢
  exact ⟨ECell.below hb hlt h.1,EKids.below hb hlt h.2⟩
end
mutual
theorem ECell.more {w:World}{B B' b o:Nat}(hB:B<=B'):∀ {e:S.BE},ECell w B b o e->ECell w B' b o e
 | .mk op n name kids,h=>by
  rw [ECell] at h ⊢
  obtain ⟨h1,h2,h3,h4,h5,A,c,h6,h7⟩:=h
  refine ⟨h1,h2,h3,h4,h5,A,c,h6,?_⟩
  rcases h7 with h7 | ⟨b',off,h8,h9,h10⟩
  ·exact .inl h7
  ·exact .inr ⟨b',off,h8,Nat.lt_of_lt_of_le h9 hB,EKids.more hB h10⟩
theorem EKids.more {w:World}{B B' b o:Nat}(hB:B<=B'):∀ {l:List S.BE},EKids w B b o l->EKids w B' b o l
 | [],_=>by rw [EKids];trivial
 | e::r,h=>by
  rw [EKids] at h ⊢
  exact ⟨ECell.more hB h.1,EKids.more hB h.2⟩
end
theorem EList.below {w w':World}{B:Nat}{A:Option Addr}{l:List S.BE}(h:EList w B A l) (hb:Below B w w'):EList w' B A l:=by
 rcases h with h | ⟨b,off,h1,h2,h3⟩
 ·exact .inl h
 ·exact .inr ⟨b,off,h1,h2,h3.below hb h2⟩
theorem EList.more {w:World}{B B':Nat}{A:Option Addr}{l:List S.BE}(h:EList w B A l) (hB:B<=B'):EList w B' A l:=by
 rcases h with h | ⟨b,off,h1,h2,h3⟩
 ·exact .inl h
 ·exact .inr ⟨b,off,h1,Nat.lt_of_lt_of_le h2 hB,h3.more hB⟩
theorem EKids.at_ {w:World}{B b:Nat}:∀ {l:List S.BE}{o k:Nat}{e:S.BE},EKids w B b o l->l[k]?=some e->ECell w B b (o+k*4) e
 | [],o,k,e,_,h=>by simp at h
 | x::r,o,0,e,hk,h=>by
  rw [EKids] at hk
  simp only [List.getElem?_cons_zero,Option.some.injEq] at h
  subst h
  simpa using hk.1
 | x::r,o,k+1,e,hk,h=>by
  rw [EKids] at hk
  have:=EKids.at_ hk.2 (k:=k) (by simpa using h)
  have e1:o+4+k*4=o+(k+1)*4:=by omega
  rw [e1] at this
  exact this
theorem EList.at_ {w:World}{B:Nat}{A:Option Addr}{l:List S.BE}(h:EList w B A l){k:Nat}{e:S.BE}(hk:l[k]?=some e) :
 ∃ b off A' c',A=some ⟨b,off,none⟩/\b<B/\w.cell? ⟨b,off+k*4,none⟩=some (.int .i64 e.op)/\w.cell? ⟨b,off+k*4+1,none⟩=some (.int .i64 e.n)/\w.cell? ⟨b,off+k*4+2,none⟩=some (.string e.name) /\
  w.cell? ⟨b,off+k*4+3,none⟩=some (.slice A' e.kids.length c')/\e.name.size<=maxLen/\e.kids.length<=maxLen/\EList w B A' e.kids:=by
 rcases h with h | ⟨b,off,h1,h2,h3⟩
 ·subst h;simp at hk
 ·have h4:=h3.at_ hk
  obtain ⟨op,n,name,kids⟩:=e
  rw [ECell] at h4
  obtain ⟨q1,q2,q3,q4,q5,A',c',q6,q7⟩:=h4
  exact ⟨b,off,A',c',h1,h2,q1,q2,q3,q6,q4,q5,q7⟩
mutual
def SCell (w:World) (B b o:Nat):S.BS->Prop
 | .mk op n name exprs regs body els=>w.cell? ⟨b,o,none⟩=some (.int .i64 op)/\w.cell? ⟨b,o+1,none⟩=some (.int .i64 n)/\w.cell? ⟨b,o+2,none⟩=some (.string name)/\name.size<=maxLen/\exprs.length<=maxLen/\regs.length<=maxLen/\body.length<=maxLen/\els.length<=maxLen /\
  (∃ A c,w.cell? ⟨b,o+3,none⟩=some (.slice A exprs.length c)/\EList w B A exprs)/\(∃ A c,w.cell? ⟨b,o+4,none⟩=some (.slice A regs.length c)/\Ints w B A regs) /\
  (∃ A c,w.cell? ⟨b,o+5,none⟩=some (.slice A body.length c)/\(body=[]\/∃ b' off,A=some ⟨b',off,none⟩/\b'<B/\SKids w B b' off body)) /\
  (∃ A c,w.cell? ⟨b,o+6,none⟩=some (.slice A els.length c)/\(els=[]\/∃ b' off,A=some ⟨b',off,none⟩/\b'<B/\SKids w B b' off els))
def SKids (w:World) (B b o:Nat):List S.BS->Prop
 | []=>True
 | s::r=>SCell w B b o s/\SKids w B b (o+7) r
end
def SList (w:World) (B:Nat) (A:Option Addr) (l:List S.BS):Prop:=l=[]\/∃ b off,A=some ⟨b,off,none⟩/\b<B/\SKids w B b off l
mutual
theorem SCell.below {w w':World}{B b o:Nat}(hb:Below B w w') (hlt:b<B):∀ {s:S.BS},SCell w B b o s->SCell w' B b o s
 | .mk op n name exprs regs body els,h=>by
  rw [SCell] at h ⊢
  obtain ⟨h1,h2,h3,h4,h5,h6,h7,h8,⟨A1,c1,a1,a2⟩,⟨A2,c2,b1,b2⟩,⟨A3,c3,d1,d2⟩,⟨A4,c4,e1,e2⟩⟩:=h
  refine ⟨(hb.cell (p:=⟨b,_,none⟩) hlt).trans h1,(hb.cell (p:=⟨b,_,none⟩) hlt).trans h2,(hb.cell (p:=⟨b,_,none⟩) hlt).trans h3,h4,h5,h6,h7,h8,⟨A1,c1,(hb.cell (p:=⟨b,_,none⟩) hlt).trans a1,a2.below hb⟩,
   ⟨A2,c2,(hb.cell (p:=⟨b,_,none⟩) hlt).trans b1,b2.below hb⟩,⟨A3,c3,(hb.cell (p:=⟨b,_,none⟩) hlt).trans d1,?_⟩,⟨A4,c4,(hb.cell (p:=⟨b,_,none⟩) hlt).trans e1,?_⟩⟩
  ·rcases d2 with d2 | ⟨b',off,q1,q2,q3⟩
   ·exact .inl d2
   ·exact .inr ⟨b',off,q1,q2,SKids.below hb q2 q3⟩
  ·rcases e2 with e2 | ⟨b',off,q1,q2,q3⟩
   ·exact .inl e2
   ·exact .inr ⟨b',off,q1,q2,SKids.below hb q2 q3⟩
theorem SKids.below {w w':World}{B b o:Nat}(hb:Below B w w') (hlt:b<B):∀ {l:List S.BS},SKids w B b o l->SKids w' B b o l
 | [],_=>by rw [SKids];trivial
 | e::r,h=>by
  rw [SKids] at h ⊢
  exact ⟨SCell.below hb hlt h.1,SKids.below hb hlt h.2⟩
end
mutual
theorem SCell.more {w:World}{B B' b o:Nat}(hB:B<=B'):∀ {s:S.BS},SCell w B b o s->SCell w B' b o s
 | .mk op n name exprs regs body els,h=>by
  rw [SCell] at h ⊢
  obtain ⟨h1,h2,h3,h4,h5,h6,h7,h8,⟨A1,c1,a1,a2⟩,⟨A2,c2,b1,b2⟩,⟨A3,c3,d1,d2⟩,⟨A4,c4,e1,e2⟩⟩:=h
  refine ⟨h1,h2,h3,h4,h5,h6,h7,h8,⟨A1,c1,a1,a2.more hB⟩,⟨A2,c2,b1,b2.more hB⟩,⟨A3,c3,d1,?_⟩,⟨A4,c4,e1,?_⟩⟩
  ·rcases d2 with d2 | ⟨b',off,q1,q2,q3⟩
   ·exact .inl d2
   ·exact .inr ⟨b',off,q1,Nat.lt_of_lt_of_le q2 hB,SKids.more hB q3⟩
  ·rcases e2 with e2 | ⟨b',off,q1,q2,q3⟩
   ·exact .inl e2
   ·exact .inr ⟨b',off,q1,Nat.lt_of_lt_of_le q2 hB,SKids.more hB q3⟩
theorem SKids.more {w:World}{B B' b o:Nat}(hB:B<=B'):∀ {l:List S.BS},SKids w B b o l->SKids w B' b o l
 | [],_=>by rw [SKids];trivial
 | e::r,h=>by
  rw [SKids] at h ⊢
  exact ⟨SCell.more hB h.1,SKids.more hB h.2⟩
end
theorem SList.below {w w':World}{B:Nat}{A:Option Addr}{l:List S.BS}(h:SList w B A l) (hb:Below B w w'):SList w' B A l:=by
 rcases h with h | ⟨b,off,h1,h2,h3⟩
 ·exact .inl h
 ·exact .inr ⟨b,off,h1,h2,h3.below hb h2⟩
theorem SList.more {w:World}{B B':Nat}{A:Option Addr}{l:List S.BS}(h:SList w B A l) (hB:B<=B'):SList w B' A l:=by
 rcases h with h | ⟨b,off,h1,h2,h3⟩
 ·exact .inl h
 ·exact .inr ⟨b,off,h1,Nat.lt_of_lt_of_le h2 hB,h3.more hB⟩
theorem SKids.at_ {w:World}{B b:Nat}:∀ {l:List S.BS}{o k:Nat}{s:S.BS},SKids w B b o l->l[k]?=some s->SCell w B b (o+k*7) s
 | [],o,k,e,_,h=>by simp at h
 | x::r,o,0,e,hk,h=>by
  rw [SKids] at hk
  simp only [List.getElem?_cons_zero,Option.some.injEq] at h
  subst h
  simpa using hk.1
 | x::r,o,k+1,e,hk,h=>by
  rw [SKids] at hk
  have:=SKids.at_ hk.2 (k:=k) (by simpa using h)
  have e1:o+7+k*7=o+(k+1)*7:=by omega
  rw [e1] at this
  exact this
structure SPart (w:World) (B:Nat) (s:S.BS) (A1 A2 A3 A4:Option Addr):Prop where
 name:s.name.size<=maxLen
 l1:s.exprs.length<=maxLen
 l2:s.regs.length<=maxLen
 l3:s.body.length<=maxLen
 l4:s.els.length<=maxLen
 exprs:EList w B A1 s.exprs
 regs:Ints w B A2 s.regs
 body:SList w B A3 s.body
 els:SList w B A4 s.els
theorem SPart.below {w w':World}{B:Nat}{s:S.BS}{A1 A2 A3 A4:Option Addr}(h:SPart w B s A1 A2 A3 A4) (hb:Below B w w'):SPart w' B s A1 A2 A3 A4 :=
 ⟨h.name,h.l1,h.l2,h.l3,h.l4,h.exprs.below hb,h.regs.below hb,h.body.below hb,h.els.below hb⟩
theorem SPart.more {w:World}{B B':Nat}{s:S.BS}{A1 A2 A3 A4:Option Addr}(h:SPart w B s A1 A2 A3 A4) (hB:B<=B'):SPart w B' s A1 A2 A3 A4 :=
 ⟨h.name,h.l1,h.l2,h.l3,h.l4,h.exprs.more hB,h.regs.more hB,h.body.more hB,h.els.more hB⟩
theorem SList.at_ {w:World}{B:Nat}{A:Option Addr}{l:List S.BS}(h:SList w B A l){k:Nat}{s:S.BS}(hk:l[k]?=some s) :
 ∃ b off A1 c1 A2 c2 A3 c3 A4 c4,A=some ⟨b,off,none⟩/\b<B/\w.cell? ⟨b,off+k*7,none⟩=some (.int .i64 s.op)/\w.cell? ⟨b,off+k*7+1,none⟩=some (.int .i64 s.n)/\w.cell? ⟨b,off+k*7+2,none⟩=some (.string s.name) /\
  w.cell? ⟨b,off+k*7+3,none⟩=some (.slice A1 s.exprs.length c1)/\w.cell? ⟨b,off+k*7+4,none⟩=some (.slice A2 s.regs.length c2)/\w.cell? ⟨b,off+k*7+5,none⟩=some (.slice A3 s.body.length c3) /\
  w.cell? ⟨b,off+k*7+6,none⟩=some (.slice A4 s.els.length c4)/\SPart w B s A1 A2 A3 A4:=by
 rcases h with h | ⟨b,off,h1,h2,h3⟩
 ·subst h;simp at hk
 ·have h4:=h3.at_ hk
  obtain ⟨op,n,name,exprs,regs,body,els⟩:=s
  rw [SCell] at h4
  obtain ⟨q1,q2,q3,q4,q5,q6,q7,q8,⟨A1,c1,a1,a2⟩,⟨A2,c2,b1,b2⟩,⟨A3,c3,d1,d2⟩,⟨A4,c4,e1,e2⟩⟩:=h4
  exact ⟨b,off,A1,c1,A2,c2,A3,c3,A4,c4,h1,h2,q1,q2,q3,a1,b1,d1,e1,q4,q5,q6,q7,q8,a2,b2,d2,e2⟩
mutual
def szE:S.BE->Nat
 | .mk _ _ _ kids=>1+szEs kids
def szEs:List S.BE->Nat
 | []=>0
 | e::r=>szE e+szEs r
end
theorem szE_mem:∀ {l:List S.BE}{e:S.BE},e∈l->szE e<=szEs l
 | x::r,e,h=>by
  rw [szEs]
  rcases List.mem_cons.1 h with rfl | h
  ·omega
  ·have:=szE_mem h;omega
theorem szE_pos (e:S.BE):szE e=1+szEs e.kids:=by
 obtain ⟨op,n,name,kids⟩:=e
 rw [szE];rfl
mutual
def szS:S.BS->Nat
 | .mk _ _ _ exprs _ body els=>1+szEs exprs+szSs body+szSs els
def szSs:List S.BS->Nat
 | []=>0
 | s::r=>szS s+szSs r
end
theorem szS_mem:∀ {l:List S.BS}{s:S.BS},s∈l->szS s<=szSs l
 | x::r,e,h=>by
  rw [szSs]
  rcases List.mem_cons.1 h with rfl | h
  ·omega
  ·have:=szS_mem h;omega
theorem szS_pos (s:S.BS):szS s=1+szEs s.exprs+szSs s.body+szSs s.els:=by
 obtain ⟨op,n,name,exprs,regs,body,els⟩:=s
 rw [szS];rfl
end
section
open Go.RowKit
theorem str_ne0 (s:ByteArray):(s.toList != ([]:List UInt8))=decide (s.size≠0):=by
 rw [ByteArray.toList_eq]
 cases h:s.data.toList with
 | nil =>
  have:s.size=0:=by show s.data.size=0;rw [<- Array.length_toList,h];rfl
  simp [this]
 | cons x r =>
  have:s.size≠0:=by show s.data.size≠0;rw [<- Array.length_toList,h];simp
  simp [this]
set_option maxHeartbeats 1000000 in
theorem b_label (s:ByteArray) (w:World) (hs:s.size<=maxLen):Calls Tryz.prog 48 #[.string s] w fun e w'=>e=.returned (.bool (S.labB s))/\w=w':=by
 have Hne:=Lib.hid (str_ne0 s)
 have Hc:=Lib.hid (strings_HasPrefix s w hs)
 by_cases h:s.toList=[]
 ·have Hr:=Lib.hid (show S.labB s=false from by
   have h1:decide (s.size≠0)=false:=by rw [<- str_ne0 s];simp [h]
   show (decide (s.size≠0) && !S.ownB s)=false
   rw [h1];rfl)
  clear hs
  go_enter Tryz.func48,Tryz.ntmps48
  go_wp2_with fail
  go_ret
  exact ⟨ret_bool Hr.out.symm,rfl⟩
 ·have Hr:=Lib.hid (show S.labB s=!S.ownB s from by
   have h1:decide (s.size≠0)=true:=by rw [<- str_ne0 s];simp [h]
   show (decide (s.size≠0) && !S.ownB s)=_
   rw [h1];rfl)
  clear hs
  go_enter Tryz.func48,Tryz.ntmps48
  go_wp2_with fail
  refine Hc.out.mono ?_
  rintro e w2 ⟨rfl,rfl⟩
  go_wp2_with fail
  go_ret
  exact ⟨ret_bool (by rw [Hr.out];simp [h]),rfl⟩
theorem b_within (n:Int) (w:World):Calls Tryz.prog 125 #[.int .i64 n] w fun e w'=>e=.returned (.bool (S.offB n))/\w=w':=by
 by_cases h:-32768<=n
 ·by_cases h2:n<32768
  ·have Hr:=Lib.hid (show true=S.offB n from (decide_eq_true ⟨h,h2⟩).symm)
   go_enter Tryz.func125,Tryz.ntmps125
   go_wp2_with fail
   go_ret
   exact ⟨ret_bool Hr.out,rfl⟩
  ·have Hr:=Lib.hid (show false=S.offB n from (decide_eq_false (by omega)).symm)
   go_enter Tryz.func125,Tryz.ntmps125
   go_wp2_with fail
   go_ret
   exact ⟨ret_bool Hr.out,rfl⟩
 ·have Hr:=Lib.hid (show false=S.offB n from (decide_eq_false (by omega)).symm)
  go_enter Tryz.func125,Tryz.ntmps125
  go_wp2_with fail
  go_ret
  exact ⟨ret_bool Hr.out,rfl⟩
set_option maxHeartbeats 1000000 in
theorem b_visible (n:Int) (w:World):Calls Tryz.prog 126 #[.int .i64 n] w fun e w'=>e=.returned (.bool (S.visB n))/\w=w':=by
 rcases (show (1<=n/\n<=10)\/n<1\/(10<n/\n<26)\/n=26\/n=27\/n=28\/n=29\/n=30\/30<n by omega) with ⟨h,h'⟩ | h | ⟨h,h'⟩ | rfl | rfl | rfl | rfl | rfl | h
 ·have Hr:=Lib.hid (show true=S.visB n from (decide_eq_true (.inl ⟨h,h'⟩)).symm)
  go_enter Tryz.func126,Tryz.ntmps126
  go_wp2_with fail
  go_ret
  exact ⟨ret_bool Hr.out,rfl⟩
 ·have Hr:=Lib.hid (show false=S.visB n from (decide_eq_false (by omega)).symm)
  have n1:(n==26)=false:=by simp;omega
  have n2:(n==27)=false:=by simp;omega
  have n3:(n==29)=false:=by simp;omega
  have n4:(n==30)=false:=by simp;omega
  go_enter Tryz.func126,Tryz.ntmps126
  go_wp2_with fail
  go_ret
  first
   | exact ⟨ret_bool Hr.out,rfl⟩
   | exact ⟨ret_bool ((decide_eq_false (by omega)).trans Hr.out),rfl⟩
 ·have Hr:=Lib.hid (show false=S.visB n from (decide_eq_false (by omega)).symm)
  have n1:(n==26)=false:=by simp;omega
  have n2:(n==27)=false:=by simp;omega
  have n3:(n==29)=false:=by simp;omega
  have n4:(n==30)=false:=by simp;omega
  go_enter Tryz.func126,Tryz.ntmps126
  go_wp2_with fail
  go_ret
  first
   | exact ⟨ret_bool Hr.out,rfl⟩
   | exact ⟨ret_bool ((decide_eq_false (by omega)).trans Hr.out),rfl⟩
 ·go_enter Tryz.func126,Tryz.ntmps126
  go_wp2_with fail
  go_ret
  exact ⟨ret_bool rfl,rfl⟩
 ·go_enter Tryz.func126,Tryz.ntmps126
  go_wp2_with fail
  go_ret
  exact ⟨ret_bool rfl,rfl⟩
 ·go_enter Tryz.func126,Tryz.ntmps126
  go_wp2_with fail
  go_ret
  exact ⟨ret_bool rfl,rfl⟩
 ·go_enter Tryz.func126,Tryz.ntmps126
  go_wp2_with fail
  go_ret
  exact ⟨ret_bool rfl,rfl⟩
 ·go_enter Tryz.func126,Tryz.ntmps126
  go_wp2_with fail
  go_ret
  exact ⟨ret_bool rfl,rfl⟩
 ·have Hr:=Lib.hid (show false=S.visB n from (decide_eq_false (by omega)).symm)
  have n1:(n==26)=false:=by simp;omega
  have n2:(n==27)=false:=by simp;omega
  have n3:(n==29)=false:=by simp;omega
  have n4:(n==30)=false:=by simp;omega
  go_enter Tryz.func126,Tryz.ntmps126
  go_wp2_with fail
  go_ret
  first
   | exact ⟨ret_bool Hr.out,rfl⟩
   | exact ⟨ret_bool ((decide_eq_false (by omega)).trans Hr.out),rfl⟩
def risTo (l:List Int) (k:Nat):Prop:=∀ j,j<k->S.visB (l.getD j 0)=true/\(0<j->l.getD (j-1) 0<l.getD j 0)
theorem rising_all:∀ (l:List Int),S.risingB l=true↔risTo l l.length
 | []=>by
  constructor
  ·intro _ j hj;simp at hj
  ·intro _;rfl
 | [a]=>by
  rw [S.risingB]
  constructor
  ·intro h j hj
   have:j=0:=by simpa using hj
   subst this
   exact ⟨h,by omega⟩
  ·intro h;exact (h 0 (by simp)).1
 | a::b::r=>by
  rw [S.risingB]
  simp only [Bool.and_eq_true,decide_eq_true_eq]
  rw [rising_all (b::r)]
  constructor
  ·rintro ⟨⟨h1,h2⟩,h3⟩ j hj
   rcases j with _ | j
   ·exact ⟨h1,by omega⟩
   ·obtain ⟨q1,q2⟩:=h3 j (by simpa using hj)
    refine ⟨q1,fun _=>?_⟩
    rcases j with _ | j
    ·exact h2
    ·exact q2 (by omega)
  ·intro h
   refine ⟨⟨(h 0 (by simp)).1,(h 1 (by simp)).2 (by omega)⟩,fun j hj=>?_⟩
   obtain ⟨q1,q2⟩:=h (j+1) (by simpa using hj)
   refine ⟨q1,fun hp=>?_⟩
   have:=q2 (by omega)
   rcases j with _ | j
   ·omega
   ·exact this
set_option maxHeartbeats 2000000 in
theorem b_rising (A:Option Addr) (c:Nat) (l:List Int) (w:World) (hA:Ints w w.heap.size A l) (hl:l.length<=maxLen):Calls Tryz.prog 127 #[.slice A l.length c] w fun e w'=>e=.returned (.bool (S.risingB l))/\w=w':=by
 unfold maxLen at hl
 obtain ⟨N,hN⟩:∃ N,N=l.length:=⟨_,rfl⟩
 rw [<- hN] at hl ⊢
 have HN:=Lib.hid hN
 have Hall:=Lib.hid (rising_all l)
 clear hN
 go_enter Tryz.func127,Tryz.ntmps127
 go_wp2_with fail
 go_loopw [3,4,7] (fun _ _ v7 wr=>∃ k:Nat,k<=N/\v7=.int .i64 k/\w=wr/\Hid (risTo l k)) (fun _ _ v7 _=>N-(intOf v7).toNat)
 case atStart=>exact ⟨0,by omega,rfl,rfl,Lib.hid fun j hj=>by omega⟩
 case round =>
  obtain ⟨k,hk,rfl,rfl,HR⟩:=hrel
  by_cases hlt:k<N
  ·have hkl:k<l.length:=by rw [<- HN.out];exact hlt
   obtain ⟨b,off,rfl,hbB,hc⟩:=hA.two (by omega)
   obtain ⟨x,hx⟩:∃ x,l[k]?=some x:=⟨_,List.getElem?_eq_getElem hkl⟩
   have hx0:=hc k x hx
   have hgx:l.getD k 0=x:=by simp [hx]
   cases hv:S.visB x with
   | false =>
    have Hf:=Lib.hid (show S.risingB l=false from by
     rw [<- Bool.not_eq_true,Hall.out]
     intro h
     have:=(h k hkl).1
     rw [hgx,hv] at this
     cases this)
    have Hv:=Lib.hid (b_visible x w)
    rw [hv] at Hv
    clear hv hgx hx hc
    go_wp2_with fail
    refine Hv.out.mono ?_
    rintro e w2 ⟨rfl,rfl⟩
    go_wp2_with fail
    go_ret
    exact ⟨ret_bool Hf.out.symm,rfl⟩
   | true =>
    have Hv:=Lib.hid (b_visible x w)
    rw [hv] at Hv
    by_cases hk0:k=0
    ·subst hk0
     rw [Nat.add_zero] at hx0
     have HR':=Lib.hid (show risTo l 1 from fun j hj=>by
      have:j=0:=by omega
      subst this
      exact ⟨by rw [hgx];exact hv,by omega⟩)
     clear hv hgx hx hc
     go_wp2_with fail
     refine Hv.out.mono ?_
     rintro e w2 ⟨rfl,rfl⟩
     go_wp2_with fail
     go_roundw
     case rel=>exact ⟨1,by omega,by first | rfl | go_num,by first | rfl | trivial,HR'⟩
     case measure=>simp [intOf];omega
    ·obtain ⟨y,hy⟩:∃ y,l[k-1]?=some y:=⟨_,List.getElem?_eq_getElem (by omega)⟩
     have hy0:=hc (k-1) y hy
     have hgy:l.getD (k-1) 0=y:=by simp [hy]
     have hk1:0<k:=by omega
     have et:((k:Int)-1).toNat=k-1:=by omega
     have eo:off+((k:Int)-1).toNat=off+(k-1):=by omega
     by_cases hyx:y<x
     ·have HR':=Lib.hid (show risTo l (k+1) from fun j hj=>by
       by_cases hjk:j=k
       ·subst hjk
        exact ⟨by rw [hgx];exact hv,fun _=>by rw [hgx,hgy];exact hyx⟩
       ·exact HR.out j (by omega))
      clear hv hgx hgy hx hy hc hk0
      go_wp2_with fail
      refine Hv.out.mono ?_
      rintro e w2 ⟨rfl,rfl⟩
      go_wp2_with fail
      go_roundw
      case rel=>exact ⟨k+1,by omega,by go_num,by first | rfl | trivial,HR'⟩
      case measure=>simp [intOf];omega
     ·have Hf:=Lib.hid (show S.risingB l=false from by
       rw [<- Bool.not_eq_true,Hall.out]
       intro h
       have:=(h k hkl).2 hk1
       rw [hgx,hgy] at this
       exact hyx this)
      clear hv hgx hgy hx hy hc hk0
      go_wp2_with fail
      refine Hv.out.mono ?_
      rintro e w2 ⟨rfl,rfl⟩
      go_wp2_with fail
      go_ret
      exact ⟨ret_bool Hf.out.symm,rfl⟩
  ·have hkN:k=N:=by omega
   subst hkN
   go_wp2_with fail
   go_ret
   refine ⟨?_,rfl⟩
   have:S.risingB l=true:=by rw [Hall.out,<- HN.out];exact HR.out
   exact ret_bool this.symm
end
section
open Go.RowKit
theorem needEs_snoc (e:S.BE):∀ (l:List S.BE) (i:Nat),S.needEs (l++[e]) i=max (S.needEs l i) (i+l.length+max 1 (S.needE e))
 | [],i=>by simp only [List.nil_append,S.needEs,List.length_nil];omega
 | x::r,i=>by
  rw [List.cons_append,S.needEs,S.needEs,needEs_snoc e r (i+1)]
  simp only [List.length_cons]
  omega
mutual
theorem needE_le:∀ (e:S.BE),S.needE e<=szE e
 | .mk op n name kids=>by
  rw [S.needE,szE]
  have:=needEs_le kids 0
  omega
theorem needEs_le:∀ (l:List S.BE) (i:Nat),S.needEs l i<=i+szEs l
 | [],i=>by rw [S.needEs];omega
 | e::r,i=>by
  rw [S.needEs,szEs]
  have h1:=needE_le e
  have h2:=needEs_le r (i+1)
  have h3:=szE_pos e
  omega
end
theorem take_one {α:Type}(l:List α){k:Nat}{x:α}(h:l[k]?=some x):l.take (k+1)=l.take k++[x]:=by
 rw [List.take_add_one,h]
 rfl
theorem szEs_append (l m:List S.BE):szEs (l++m)=szEs l+szEs m:=by
 induction l with
 | nil=>rw [List.nil_append,szEs,Nat.zero_add]
 | cons x r ih=>rw [List.cons_append,szEs,szEs,ih,Nat.add_assoc]
theorem szEs_take (l:List S.BE) (k:Nat):szEs (l.take k)<=szEs l:=by
 have:szEs l=szEs (l.take k)+szEs (l.drop k):=by rw [<- szEs_append,List.take_append_drop]
 omega
theorem len_szEs:∀ l:List S.BE,l.length<=szEs l
 | []=>by simp
 | e::r=>by
  rw [szEs,List.length_cons]
  have:=len_szEs r
  have:=szE_pos e
  omega
set_option maxHeartbeats 2000000 in
theorem b_need:∀ (n:Nat) (A:Option Addr) (c:Nat) (l:List S.BE) (w:World),szEs l<=n->n<=1000000000->EList w w.heap.size A l ->
 Calls Tryz.prog 85 #[.slice A l.length c] w fun e w'=>e=.returned (.int .i64 (S.needEs l 0:Nat))/\Below w.heap.size w w':=by
 intro n
 induction n with
 | zero =>
  intro A c l w hn hn2 hA
  have hl:l=[]:=by
   cases l with
   | nil=>rfl
   | cons e r=>rw [szEs] at hn;have:=szE_pos e;omega
  subst hl
  go_enter Tryz.func85,Tryz.ntmps85
  go_wp2_with fail
  go_loopw [3,8] (fun v3 v8 wr=>v3=.int .i64 0/\v8=.int .i64 0/\w=wr) (fun _ _ _=>0)
  case atStart=>exact ⟨rfl,rfl,rfl⟩
  case round =>
   obtain ⟨rfl,rfl,rfl⟩:=hrel
   go_wp2_with fail
   go_ret
   exact ⟨rfl,Below.refl _ _⟩
 | succ n ih =>
  intro A c l w hn hn2 hA
  have hlen:=len_szEs l
  obtain ⟨N,hN⟩:∃ N,N=l.length:=⟨_,rfl⟩
  rw [<- hN] at hlen ⊢
  have HN:=Lib.hid hN
  have HA:=Lib.hid hA
  clear hN hA
  go_enter Tryz.func85,Tryz.ntmps85
  go_wp2_with fail
  go_loopw [3,8] (fun v3 v8 wr=>∃ (k m:Nat),k<=N/\v8=.int .i64 k/\v3=.int .i64 m/\Hid (m=S.needEs (l.take k) 0)/\m<=1000000000/\Below w.heap.size w wr) (fun _ v8 _=>N-(intOf v8).toNat)
  case atStart=>exact ⟨0,0,by omega,rfl,rfl,Lib.hid (by rw [List.take_zero,S.needEs]),by omega,Below.refl _ _⟩
  case round =>
   obtain ⟨k,m,hk,rfl,rfl,HM,hm,hbk⟩:=hrel
   by_cases hlt:k<N
   ·obtain ⟨e,he⟩:∃ e,l[k]?=some e:=⟨_,List.getElem?_eq_getElem (by rw [<- HN.out];exact hlt)⟩
    obtain ⟨b,off,A',c',rfl,hbB,q0,q1,q2,q3,q4,q5,q6⟩:=(HA.out.below hbk).at_ he
    have hsz:=szE_mem (List.mem_of_getElem? he)
    have hsp:=szE_pos e
    have hkl:(l.take k).length=k:=by have:=HN.out;rw [List.length_take];omega
    have hnx:S.needEs (l.take (k+1)) 0=max m (k+max 1 (S.needE e)):=by
     rw [take_one l he,needEs_snoc,hkl,<- HM.out,Nat.zero_add]
    have hnE:S.needE e=S.needEs e.kids 0:=by obtain ⟨op,n',nm,kids⟩:=e;rw [S.needE];rfl
    have hq:=needEs_le e.kids 0
    have hbr:b<wr.heap.size:=Nat.lt_of_lt_of_le hbB hbk.size
    have hbX:Below wr.heap.size wr (wr.alloc (.cells #[.int .i64 e.op,.int .i64 e.n,.string e.name,.slice A' e.kids.length c'] 24)):=(Below.refl _ _).alloc (Nat.le_refl _) _
    have hrec:=ih A' c' e.kids (wr.alloc (.cells #[.int .i64 e.op,.int .i64 e.n,.string e.name,.slice A' e.kids.length c'] 24)) (by omega) (by omega) (((q6.more hbk.size).below hbX).more hbX.size)
    obtain ⟨r,hr⟩:∃ r,r=S.needEs e.kids 0:=⟨_,rfl⟩
    rw [<- hr] at hrec hnE hq
    rw [hnE] at hnx
    have hbd:max m (k+max 1 r)<=1000000000:=by
     rw [<- hnx]
     have h1:=needEs_le (l.take (k+1)) 0
     have h2:=szEs_take l (k+1)
     omega
    obtain ⟨op,en,nm,kl,hop⟩:∃ op en nm kl,op=e.op/\en=e.n/\nm=e.name/\kl=e.kids.length:=⟨_,_,_,_,rfl,rfl,rfl,rfl⟩
    obtain ⟨o1,o2,o3,o4⟩:=hop
    rw [<- o1,<- o2,<- o3,<- o4] at hrec hbX
    rw [<- o1] at q0
    rw [<- o2] at q1
    rw [<- o3] at q2
    rw [<- o4] at q3
    have Hrec:=Lib.hid hrec
    have Hnx:=Lib.hid hnx
    have HbX:=Lib.hid hbX
    clear hrec hnx hbX o1 o2 o3 o4 hr hnE he q4 q5 q6 hkl
    go_wp2_with fail
    refine Hrec.out.mono ?_
    rintro e2 w2 ⟨rfl,hb2⟩
    have hb3:=hbk.trans ((HbX.out.trans (hb2.mono HbX.out.size)).mono hbk.size)
    have hmx:(max (1:Int) (r:Int))=((max 1 r:Nat):Int):=by omega
    go_wp2_with fail
    go_roundw
    case rel =>
     refine ⟨k+1,max m (k+max 1 r),by omega,by go_num,?_,Lib.hid Hnx.out.symm,hbd,hb3⟩
     congr 1
     (repeat' split) <;> omega
    case measure=>simp [intOf];omega
   ·have hkN:k=N:=by omega
    subst hkN
    go_wp2_with fail
    go_ret
    have:S.needEs l 0=m:=by rw [HM.out,HN.out,List.take_length]
    exact ⟨ret_int (by rw [this]),hbk⟩
def PredE (B g:Nat) (lb:Array Value) (p:S.BE->Bool) (l:List S.BE) (w:World):Prop :=
 ∀ (W:World) (e:S.BE) (v:Value),Below B w W->e∈l->EVal W W.heap.size e v->Calls Tryz.prog g (#[v]++lb) W fun x w'=>x=.returned (.bool (p e))/\Below W.heap.size W w'
set_option maxHeartbeats 1000000 in
theorem b_IndexFunc (B g:Nat) (lb:Array Value) (p:S.BE->Bool) (eg:∀ args w,(callFunc g args).run Tryz.prog w=.ok (.enter g args) w) (w:World) (hB:B<=w.heap.size) (A:Option Addr) (l:List S.BE) (c:Nat) (hp:PredE B g lb p l w) (hA:EList w B A l) (hl:l.length<=1000000000) :
 Calls Tryz.prog 128 #[.slice A l.length c,.func (.func g) #[] lb] w fun e w'=>(∃ r:Int,e=.returned (.int .i64 r)/\decide (0<=r)=l.any p)/\Below w.heap.size w w':=by
 obtain ⟨N,hN⟩:∃ N:Nat,N=l.length:=⟨_,rfl⟩
 rw [<- hN] at hl ⊢
 have HN:=Lib.hid hN
 have HA:=Lib.hid hA
 clear hN hA
 go_enter Tryz.func128,Tryz.ntmps128
 go_wp2_with fail
 go_loopw [5,8] (fun _ v8 wr=>∃ k:Nat,k<=N/\v8=.int .i64 k/\Below w.heap.size w wr/\Hid (∀ x∈l.take k,p x=false)) (fun _ v8 _=>N-(intOf v8).toNat)
 case atStart=>exact ⟨0,by omega,rfl,Below.refl _ _,Lib.hid (by simp)⟩
 case round =>
  obtain ⟨k,hk,rfl,hbk,hpre⟩:=hrel
  by_cases hlt:k<N
  ·obtain ⟨e,he⟩:∃ e,l[k]?=some e:=⟨_,List.getElem?_eq_getElem (by rw [<- HN.out];exact hlt)⟩
   have hbB2:=hbk.mono hB
   obtain ⟨b,off,A',c',rfl,hbB,q0,q1,q2,q3,q4,q5,q6⟩:=(HA.out.below hbB2).at_ he
   have hbr:b<wr.heap.size:=by have:=hbk.size;omega
   have hcall:=hp wr e (.agg #[.int .i64 e.op,.int .i64 e.n,.string e.name,.slice A' e.kids.length c']) hbB2 (List.mem_of_getElem? he) ⟨A',c',rfl,q4,q5,q6.more (Nat.le_trans hB hbk.size)⟩
   obtain ⟨q,hq⟩:∃ q,q=p e:=⟨_,rfl⟩
   rw [<- hq] at hcall
   have Hq:=Lib.hid hq
   have Hx:=Lib.hid he
   obtain ⟨op,en,nm,kl,hop⟩:∃ op en nm kl,op=e.op/\en=e.n/\nm=e.name/\kl=e.kids.length:=⟨_,_,_,_,rfl,rfl,rfl,rfl⟩
   obtain ⟨o1,o2,o3,o4⟩:=hop
   rw [<- o1,<- o2,<- o3,<- o4] at hcall
   rw [<- o1] at q0
   rw [<- o2] at q1
   rw [<- o3] at q2
   rw [<- o4] at q3
   have Hp:=Lib.hid hp
   clear hp hq he o1 o2 o3 o4 q4 q5 q6 hbB2
   cases q with
   | true =>
    go_wp2_with (go_at_fn g;refine hcall.mono ?_;rintro e2 w2 ⟨rfl,hb2⟩)
    go_ret
    refine ⟨⟨(k:Int),rfl,?_⟩,hbk.trans (hb2.mono hbk.size)⟩
    rw [decide_eq_true (by omega)]
    symm
    rw [List.any_eq_true]
    exact ⟨e,List.mem_of_getElem? Hx.out,Hq.out.symm⟩
   | false =>
    go_wp2_with (go_at_fn g;refine hcall.mono ?_;rintro e2 w2 ⟨rfl,hb2⟩)
    go_roundw
    case rel =>
     refine ⟨k+1,by omega,by go_num,hbk.trans (hb2.mono hbk.size),Lib.hid (fun y hy=>?_)⟩
     rw [take_one l Hx.out] at hy
     rcases List.mem_append.1 hy with hy | hy
     ·exact hpre.out y hy
     ·have:y=e:=by simpa using hy
      rw [this];exact Hq.out.symm
    case measure=>simp [intOf];omega
  ·have hkN:k=N:=by omega
   subst hkN
   clear hp
   go_wp2_with fail
   go_ret
   refine ⟨⟨-1,rfl,?_⟩,hbk⟩
   rw [decide_eq_false (by omega)]
   symm
   rw [List.any_eq_false]
   intro y hy
   have:=hpre.out y (by rw [HN.out,List.take_length];exact hy)
   simp [this]
set_option maxHeartbeats 1000000 in
theorem b_ContainsFunc (B g:Nat) (lb:Array Value) (p:S.BE->Bool) (eg:∀ args w,(callFunc g args).run Tryz.prog w=.ok (.enter g args) w) (w:World) (hB:B<=w.heap.size) (A:Option Addr) (l:List S.BE) (c:Nat) (hp:PredE B g lb p l w) (hA:EList w B A l) (hl:l.length<=1000000000) :
 Calls Tryz.prog 82 #[.slice A l.length c,.func (.func g) #[] lb] w fun e w'=>e=.returned (.bool (l.any p))/\Below w.heap.size w w':=by
 have HI:=Lib.hid (b_IndexFunc B g lb p eg w hB A l c hp hA hl)
 generalize l.any p=r at *
 clear hp hA eg
 go_enter Tryz.func82,Tryz.ntmps82
 go_wp2_with (go_at_call 128;refine HI.out.mono ?_;rintro e w2 ⟨⟨n,rfl,hn⟩,hb2⟩)
 all_goals
  go_ret
  exact ⟨by simp_all,hb2⟩
end
end Go.Proofs.YtlldagdhlfpihaaGreatDoor
