/- Parts. -/
import Derived.Test.YtldbnjajjfgipaaGreatDoorZMachW
import Derived.Laws.CopyOwn
import Derived.KernelRfl
import Derived.Deep.MidRow
import Derived.Deep.LoopGhost
set_option linter.all false
set_option maxHeartbeats 8000000
open Go.Lib renaming hid->Ya
open Nat renaming le_refl->Yb,zero_add->Yac,add_zero->Ybh
open List renaming getD_eq_getElem?_getD->Ye,getElem?_eq_getElem->Yf,getElem?_eq_some_iff->Yg,length_cons->Yj,getElem?_append_left->Yn,getElem?_append_right->Yo,replicate->Yt,mem_cons_self->Yv,mem_cons_of_mem->Yy,mem_cons->Yz,length_map->Yaa,nil_append->Yal,not_mem_nil->Yaq,take_zero->Yax,any_eq_true->Ybz,setIfInBounds_toArray->Yb9,getElem_toArray->Yce,getElem_cons_succ->Ycs,getElem_cons_zero->Yct,set_cons_succ->Ycu,set_cons_zero->Ycv
open Go.Value renaming int->Ys
open Bool renaming and_eq_true->Yu,or_eq_true->Ycf
open Go.Region renaming waitsFor->Ybr,binds->Yb1
namespace Go.Proofs.YtldbnjajjfgipaaGreatDoor
open S Go.Proofs.Tryz Go.RowKit
set_option maxRecDepth 100000
theorem Reads.moreM {w:World}{B B':Nat}{A:Option Addr}{xs:List Value}(h:Reads w B A xs)(hB:B<=B'):Reads w B' A xs:=λ hp=>by
 obtain⟨b,off,e,hb,a⟩:=h hp;exact⟨b,off,e,by omega,a⟩
theorem MAt.copied {w:World}{B p:Nat}{l t:Value}{A:Option Addr}{c:Nat}{inp:List Int}{rd:Nat}{m:S.Mach}(h:MAt w B p l t A c inp rd m){g cap:Nat}(i:l=.slice (some ⟨g,0,none⟩) m.mem.length cap){d:Array Value}(hg:w.heap[g]?=some (.cells d 31 (0,0)))
 {L:List Int} (hL:L.length<=m.mem.length) (u:∀x∈L,0<=x/\x<=4294967295) :
 MAt (w.setRow g (d.toList.take 0++(L.map (Ys .u32)++d.toList.drop (0+(L.map (Ys .u32)).length))).toArray) B p l t A c inp rd { m with mem:=L++m.mem.drop L.length }:=by
 obtain⟨n1,n2⟩:=h.mem_ne (k:=g) (by rw[i];rfl);have a:∀j,j≠g->(w.setRow g (d.toList.take 0++(L.map (Ys .u32)++d.toList.drop (0+(L.map (Ys .u32)).length))).toArray).heap[j]?=w.heap[j]?:=λ j f=>setRow_other w g j _ f
 refine⟨⟨h.ok.regs,h.ok.word,h.ok.zero,by have:=h.ok.mem;simp;omega,λ j=>?_,h.ok.place0,h.ok.place1,h.ok.inp,h.ok.outp,h.ok.code0,h.ok.code1⟩,h.low,?_,?_,?_,?_,h.left,h.rdle,h.inl,by have:=h.low0;simp;omega,λ b o s e=>by have:=h.la b o s e;simpa using this,h.d1,h.d2⟩
 .show 0<=(L++m.mem.drop L.length).getD j 0/\(L++m.mem.drop L.length).getD j 0<=4294967295
  by_cases f:j<L.length
  .have e:(L++m.mem.drop L.length).getD j 0=L[j]:=by simp[Yn f,Yf f]
   rw[e];exact u _ (List.getElem_mem _)
  .have e:(L++m.mem.drop L.length).getD j 0=m.mem.getD j 0:=by
    simp only[Ye];rw[Yo (by omega),List.getElem?_drop,show L.length+(j-L.length)=j by omega]
   rw[e];exact h.ok.memw j
 .obtain⟨cs,h1,h2⟩:=h.blk
  exact⟨cs,by rw[a p (Ne.symm n1)];exact h1,h2⟩
 .rcases h.mem.2 with⟨e,_⟩|⟨g',cap',cur',e,h3,h4,h5,h6,h7,h8⟩
  .rw[i] at e;cases e
  .rw[i] at e
   injection e with e1 r e3
   injection e1 with e1
   injection e1 with e1
   subst e1 e3;rw[hg] at h4
   injection h4 with h4
   injection h4 with h4 _ _
   subst h4;have n:(L++m.mem.drop L.length).length=m.mem.length:=by simp;omega
   refine⟨by simp,.inr ⟨g,cap,_,by rw[i,n],h3,setRow_heap w g d _ _ _ hg,by rw[n];exact h5,h6,?_,?_⟩⟩
   .simp;omega
   .simp only[Yax,Yal,Nat.mul_one] at h8⊢
    rw[n,List.take_append,List.take_of_length_le (by simp;omega),List.map_append,List.map_drop,<- h8,Yaa,Yac,List.drop_take]
 .exact Zau h.out λ j f=>a j λ e=>n2 (e ▸ f)
 .exact h.rin.same (by simp) λ q o s e=>a q λ r=>(h.d1 q o s e).2.1 (by rw[r,i];rfl)
theorem Z57 {w a:World}{n g c:Nat}{A:Option Addr}{I:List Int}(l:1<=n)(m:n<=335544320)(p:∀x∈I,0<=x/\x<=255)(t:I.length<=1000000)(h:Below w.heap.size w a)
 (hg:a.ownsRow w.heap.size 31 1 (.slice (some ⟨g,0,none⟩) n n) n (Yt n (Ys .u32 0))) (hA:a.ownsRow w.heap.size 5 1 (.slice A I.length c) I.length (I.map (Ys .u8))) :
 MAt (a.alloc (.cells #[.int .u32 0,.int .u32 0,.int .u32 0,.int .u32 0,.int .u32 0,.int .u32 0,.int .u32 0,.int .u32 0,.int .u32 0,.int .u32 0,.int .u32 0,.int .u32 0,.int .u32 0,.int .u32 0,.int .u32 0,.int .u32 0,.int .u32 0,.int .u32 0,.int .u32 0,.int .u32 0,.int .u32 0,.int .u32 0,.int .u32 0,.int .u32 0,.int .u32 0,.int .u32 0,.int .u32 0,.int .u32 0,.int .u32 0,.int .u32 0,.int .u32 0,.int .u32 0,.slice (some ⟨g,0,none⟩) n n,.int .u32 0,.slice A I.length c,.int .i64 0,.slice none 0 0,.int .i64 0,.int .u32 0,.int .i64 0,.int .i64 0] 86)) w.heap.size a.heap.size (.slice (some ⟨g,0,none⟩) n n) (.slice none 0 0) A c I 0 (Zk7 [] n I)/\Below w.heap.size w (a.alloc (.cells #[.int .u32 0,.int .u32 0,.int .u32 0,.int .u32 0,.int .u32 0,.int .u32 0,.int .u32 0,.int .u32 0,.int .u32 0,.int .u32 0,.int .u32 0,.int .u32 0,.int .u32 0,.int .u32 0,.int .u32 0,.int .u32 0,.int .u32 0,.int .u32 0,.int .u32 0,.int .u32 0,.int .u32 0,.int .u32 0,.int .u32 0,.int .u32 0,.int .u32 0,.int .u32 0,.int .u32 0,.int .u32 0,.int .u32 0,.int .u32 0,.int .u32 0,.int .u32 0,.slice (some ⟨g,0,none⟩) n n,.int .u32 0,.slice A I.length c,.int .i64 0,.slice none 0 0,.int .i64 0,.int .u32 0,.int .i64 0,.int .i64 0] 86))/\(∀b o s,A=some ⟨b,o,s⟩->w.heap.size<=b):=by
 obtain⟨u,i,x3⟩:=Zg7 a #[.int .u32 0,.int .u32 0,.int .u32 0,.int .u32 0,.int .u32 0,.int .u32 0,.int .u32 0,.int .u32 0,.int .u32 0,.int .u32 0,.int .u32 0,.int .u32 0,.int .u32 0,.int .u32 0,.int .u32 0,.int .u32 0,.int .u32 0,.int .u32 0,.int .u32 0,.int .u32 0,.int .u32 0,.int .u32 0,.int .u32 0,.int .u32 0,.int .u32 0,.int .u32 0,.int .u32 0,.int .u32 0,.int .u32 0,.int .u32 0,.int .u32 0,.int .u32 0,.slice (some ⟨g,0,none⟩) n n,.int .u32 0,.slice A I.length c,.int .i64 0,.slice none 0 0,.int .i64 0,.int .u32 0,.int .i64 0,.int .i64 0] 86;have r:=hg.lt g rfl;have f:∀b o s,A=some ⟨b,o,s⟩->w.heap.size<=b/\b<a.heap.size:=λ b o s e=>hA.lt b (by rw[e];rfl)
 have d:(Zk7 [] n I).mem=Yt n 0:=by simp[Zk7]
 have j:=Zp9 hA hg (by decide);refine⟨⟨Zwi l (by simp) (λ x v=>by cases v) p,h.size,⟨_,u,rfl⟩,?_,World.ownsRow_nil _ _ _ _,?_,by simp[Zk7],Nat.zero_le _,by omega,by rw[d];simp;omega,λ b o s e=>by have:=f b o s e;omega,λ b o s e=>?_,?_⟩,h.trans (i.mono h.size),λ b o s e=>(f b o s e).1⟩
 .rw[d,List.map_replicate,List.length_replicate]
  exact Ze hg i
 .exact Reads.of_own (Ze hA i)
 .have h1:=f b o s e
  refine⟨by omega,λ q=>?_,λ q=>by cases q⟩;have k:g=b:=by injection q
  subst k;rcases j with q|q
  .rw[e] at q;cases q
  .exact q (by rw[e];rfl)
 .refine⟨λ q=>?_,λ q=>by cases q⟩
  have k:g=a.heap.size:=by injection q
  omega
theorem Zo8:(prog.info? 31).map (·.size)=some 1:=by kernel_rfl
theorem Zld (n:Nat):(madeCells (Ys .u32 0).cells (n*1)).toList=Yt n (Ys .u32 0):=by
 rw[Nat.mul_one];exact toList_madeCells_one _ n
def Zrz (w:World)(n:Nat)(size:Int)(I:List Int)(m:S.Mach)(e:Ending)(w':World):Prop :=
 (¬Zji n size/\e=.returned (.tuple #[.pointer none,.int .i64 2])/\w=w') \/
 (Zji n size/\∃p vm A c,e=.returned (.tuple #[.pointer (some ⟨p,0,none⟩),.int .i64 0])/\MAt w' w.heap.size p vm (.slice none 0 0) A c I 0 m/\Below w.heap.size w w'/\∀b o s,A=some ⟨b,o,s⟩->w.heap.size<=b)
theorem Z0p (Aw Ai:Option Addr)(cw ci:Nat)(L I:List Int)(size:Int)(w:World)(hL:Reads w w.heap.size Aw (L.map (Ys .u32)))(hI:Reads w w.heap.size Ai (I.map (Ys .u8)))(hl:L.length<=300000000)(a8:I.length<=1000000)
 (Z:∀x∈L,0<=x/\x<=4294967295) (T:∀x∈I,0<=x/\x<=255) :
 Calls prog 56 #[.slice Aw L.length cw,.int .i64 size,.slice Ai I.length ci] w (Zrz w L.length size I (Zk7 L size.toNat I)):=by
 have b4:=Ya Z;have a3:=Ya T;clear Z T;by_cases h1:size<1
 .have Hn:=Ya (show ¬Zji L.length size from λ q=>by have:=q.1;omega)
  go_enter func56,ntmps56
  go_wp2_with fail
  go_ret2
  exact .inl ⟨Hn.out,rfl,rfl⟩
 by_cases h2:335544320<size
 .have Hn:=Ya (show ¬Zji L.length size from λ q=>by have:=q.2.1;omega)
  go_enter func56,ntmps56
  go_wp2_with fail
  go_ret2
  exact .inl ⟨Hn.out,rfl,rfl⟩
 by_cases h3:size<L.length
 .have Hn:=Ya (show ¬Zji L.length size from λ q=>by have:=q.2.2;omega)
  go_enter func56,ntmps56
  go_wp2_with fail
  go_ret2
  exact .inl ⟨Hn.out,rfl,rfl⟩
 obtain⟨n,rfl⟩:∃n:Nat,size=n:=⟨size.toNat,by omega⟩
 have X:=Ya (show Zji L.length n from⟨by omega,by omega,by omega⟩);have HL:=Ya hL;have N:1<=n:=by omega
 have a6:n<=335544320:=by omega
 have a4:L.length<=n:=by omega
 go_enter func56,ntmps56
 go_upto_region 3 with fail
 go_cut [8] (λ v8 wc=>∃p g A c,v8=.pointer (some ⟨p,0,none⟩)/\MAt wc w.heap.size p (.slice (some ⟨g,0,none⟩) n n) (.slice none 0 0) A c I 0 (Zk7 [] n I)/\Below w.heap.size w wc/\∀b o s,A=some ⟨b,o,s⟩->w.heap.size<=b)
 case first =>
  have E:Below w.heap.size w w.drew:=(Below.refl _ _).drew;obtain⟨ti,a2,U,b0,t⟩:=info_parts (Zwg)
  go_region_with (first
   | (go_at_call 44;refine(Zjh Ai ci I w.drew hI (by omega)).mono ?_;rintro e Y ⟨K,c2,rfl,D,a7⟩)
   | (go_at_call 44;have a:Below w.heap.size w z:=E.grown i (Yb _) (λ k e=>by cases e);refine(Zjh Ai ci I z ((hI.below a).moreM a.size) (by omega)).mono ?_;rintro e w5 ⟨A5,c5,rfl,O,F⟩)
   | (obtain⟨z,d,r,i⟩:=run_make_full (P:=prog) Y Y.heap.size 28 31 ti _ 1 underlying28 a2 U b0 .i64 .i64 n (by rw[t];omega) (by simp only[maxLen];omega) (Yb _);simp only[d];clear t)
   | (obtain⟨z,d,r,i⟩:=run_make_full (P:=prog) w.drew w.drew.heap.size 28 31 ti _ 1 underlying28 a2 U b0 .i64 .i64 n (by rw[t];omega) (by simp only[maxLen];omega) (Yb _);simp only[d];clear t))
  .simp only[Yce,Ycs,Yct,Act.put,Yb9,Ycu,Ycv]
   have a:Below w.heap.size w z:=E.grown i (Yb _) (λ k e=>by cases e);have M:Below w.heap.size w w5:=a.trans (F.mono a.size);have f:w5.ownsRow w.heap.size 31 1 (.slice (some ⟨w.heap.size,0,none⟩) n n) n (Yt n (Ys .u32 0)):=by
    have h:=Ze r F
    rwa[Zld] at h
   have hZ:=Ya (Z57 (w:=w) N a6 a3.out a8 M f (Z3 O a.size));clear d r i O F a M f;go_wp2_with fail
   go_meet
   refine⟨w5.heap.size,w.heap.size,A5,c5,by kernel_rfl,?_⟩
   with_reducible exact hZ.out
  .simp only[Yce,Ycs,Yct,Act.put,Yb9,Ycu,Ycv]
   have l:Below w.heap.size w Y:=E.trans a7;have a:Below w.heap.size w z:=l.grown i l.size (λ k e=>by cases e);have f:z.ownsRow w.heap.size 31 1 (.slice (some ⟨Y.heap.size,0,none⟩) n n) n (Yt n (Ys .u32 0)):=by
    have h:=Z3 r l.size
    rwa[Zld] at h
   have a0:z.ownsRow w.heap.size 5 1 (.slice K I.length c2) I.length (I.map (Ys .u8)):=Zau (Z3 D (Yb _)) λ k hk=>i.block k (D.lt k hk).2 (λ e=>by cases e)
   have hZ:=Ya (Z57 (w:=w) N a6 a3.out a8 a f a0);clear d r i D a7 l a f a0;go_wp2_with fail
   go_meet
   refine⟨z.heap.size,Y.heap.size,K,c2,by kernel_rfl,?_⟩
   with_reducible exact hZ.out
 case rest =>
 obtain⟨p,g,K,c2,rfl,J,C,a1⟩:=hcut;have m:(Zk7 [] n I).mem.length=n:=by simp[Zk7]
 obtain⟨b7,_⟩:=J.cells;have b9:=J.lt;have B:=J.mem;rw[m] at B;obtain⟨u,a5,b8⟩:∃u,wc.heap[g]?=some (.cells u 31 (0,0))/\n<=u.size:=by
  rcases B.2 with⟨e,_⟩|⟨g',b6,G,e,h3,h4,h5,h6,h7,h8⟩
  .cases e
  .injection e with e1 e2 e3
   injection e1 with e1
   injection e1 with e1
   subst e1;exact⟨G,h4,by omega⟩
 have V:=HL.out.below C;have HM:=Ya J;have b2:=Ya V;have y:Zk7 L n I={ Zk7 [] n I with mem:=L++(Zk7 [] n I).mem.drop L.length }:=by
  simp[Zk7]
 have W:=Ya y;have Hb:=Ya C;have a9:=Ya a1;clear J V B y C a1;by_cases hz:L.length=0
 .have hnil:L=[]:=List.eq_nil_of_length_eq_zero hz
  subst hnil;go_wp2_with (refine wpList_copy_nothing (o:=⟨some 32,_,_,_,_,_⟩) rfl (.tmp 30) (.tmp 31) _ _ rfl 31 underlying28 Zo8 (some ⟨g,0,none⟩) Aw n n 0 cw rfl rfl (by simp) ?_)
  go_ret2
  refine .inr ⟨X.out,p,.slice (some ⟨g,0,none⟩) n n,K,c2,rfl,?_,Hb.out,a9.out⟩;exact HM.out
 .obtain⟨bL,oL,e,hbL,hcL⟩:=b2.out (by simp;omega)
  subst e;have b1:=Ya hcL;have b3:=Ya (HM.out.copied (g:=g) (cap:=n) (by rw[m]) a5 (L:=L) (by rw[m];exact a4) b4.out);have b5:=Ya (HM.out.foot_lt (show Za0 p (.slice (some ⟨g,0,none⟩) n n) (.slice none 0 0) g from .inr (.inl rfl))).1;clear hcL;go_wp2_with (refine wpList_copy_own (o:=⟨some 32,_,_,_,_,_⟩) rfl (.tmp 30) (.tmp 31) _ _ rfl 31 underlying28 Zo8 g 0 n n ⟨bL,oL,none⟩ L.length cw rfl rfl u 31 a5 (L.map (Ys .u32)) (by rw[Yaa];exact(Nat.min_eq_left a4).symm) (λ j v hj=>(by rw[Addr.add_mk];exact b1.out j v hj)) (by rw[Yaa];omega) (by simp[Value.oneCell']) ?_)
  go_ret2
  refine .inr ⟨X.out,p,.slice (some ⟨g,0,none⟩) n n,K,c2,rfl,?_,?_,a9.out⟩
  .rw[W.out]
   have hc:=b3.out;rw[Yax,Yal,Yac,Yaa] at hc;exact hc
  .exact below_setRow Hb.out b5.out _
namespace S
def kStart:ByteArray:=⟨#[115,116,97,114,116]⟩
def kAfter:ByteArray:=⟨#[97,102,116,101,114]⟩
def bW (w:Int):Item:=⟨6,⟨0,0,0,0,0⟩,bNo,w⟩
def viewOf (m:Mach):Vw:=⟨m.rd,m.mv,m.input,m.out⟩
end S
section
namespace S
def eC (n:Int):BE:=.mk 1 n bNo []
def eL (n:Int):BE:=.mk 2 n bNo []
def eR (n:Int):BE:=.mk 3 n bNo []
def eB (op:Int)(a b:BE):BE:=.mk 4 op bNo [a,b]
def eM (a:BE)(n:Int):BE:=.mk 5 n bNo [a]
def eF (name:ByteArray)(l:List BE):BE:=.mk 6 0 name l
def eQ (a b:BE):BE:=.mk 7 0 bNo [a,b]
def eA (name:ByteArray):BE:=.mk 9 0 name []
def eK:BE:=.mk 10 0 bNo []
def sAs (n:Int)(e:BE):BS:=.mk 1 n bNo [e] [] [] []
def sPut (a:BE)(n:Int)(e:BE):BS:=.mk 2 n bNo [a,e] [] [] []
def sIf (e:BE)(b l:List BS):BS:=.mk 3 0 bNo [e] [] b l
def sWh (e:BE)(b:List BS):BS:=.mk 4 0 bNo [e] [] b []
def sRet (regs:List Int)(l:List BE):BS:=.mk 5 0 bNo l regs [] []
def sDo (e:BE):BS:=.mk 6 0 bNo [e] [] [] []
def sHlt (e:BE):BS:=.mk 8 0 bNo [e] [] [] []
def sSet (n:Int)(e:BE):BS:=.mk 9 n bNo [e] [] [] []
def Z82 (name:ByteArray):BS:=.mk 10 0 name [] [] [] []
def sGo (e:BE):BS:=.mk 11 0 bNo [e] [] [] []
def sBk (e:BE):BS:=sRet [4] [e]
end S
section
variable {I:Img}{dep lk:Int}{env:List Int}{at_:Nat}{st:S.Vw}{c:Nat}{Q:Int->S.Vw->Nat->Prop}{H:Int->S.Vw->Nat->Prop}
theorem Zgk (op n:Int)(nm:ByteArray)(l:List S.BE):wpE I dep lk env (.mk op n nm l) at_ st c Q H=wpEs I dep lk env l at_ st c (λ vs a c1=>S.wpOp I dep lk op n nm at_ env vs a c1 Q H) H:=by rw[wpE]
theorem Z7k (n:Int):wpE I dep lk env (S.eC n) at_ st c Q H=Q (n%4294967296) st (c+2):=by
 rw[S.eC,Zgk,wpEs,S.wpOp,if_pos rfl]
theorem Z7l (n:Int):wpE I dep lk env (S.eL n) at_ st c Q H=Q (env.getD n.toNat 0) st (c+1):=by
 rw[S.eL,Zgk,wpEs,S.wpOp,if_neg (by decide),if_pos rfl]
theorem Z7m (n:Int):wpE I dep lk env (S.eR n) at_ st c Q H=Q (st.reg n) st (c+1):=by
 rw[S.eR,Zgk,wpEs,S.wpOp,if_neg (by decide),if_neg (by decide),if_pos rfl]
theorem Z7n (op:Int)(a b:S.BE):wpE I dep lk env (S.eB op a b) at_ st c Q H =
 wpE I dep lk env a at_ st c (λ v d c1=>wpE I dep lk env b (at_+1) d c1 (λ u e c2=>(u=0->op≠5/\op≠6)/\Q (alu op v u) e (c2+1)) H) H:=by
 rw[S.eB,Zgk,wpEs];refine congrArg (λ q=>wpE I dep lk env a at_ st c q H) (funext λ v=>funext λ d=>funext λ c1=>?_);rw[wpEs];refine congrArg (λ q=>wpE I dep lk env b (at_+1) d c1 q H) (funext λ u=>funext λ e=>funext λ c2=>?_);rw[wpEs,S.wpOp,if_neg (by decide),if_neg (by decide),if_neg (by decide),if_pos rfl];rfl
theorem Z7o (a:S.BE)(n:Int):wpE I dep lk env (S.eM a n) at_ st c Q H =
 wpE I dep lk env a at_ st c (λ v b c1=>u32m (v+n)<I.size/\¬I.stk (u32m (v+n))/\Q (b.mem (u32m (v+n))) b (c1+1)) H:=by
 rw[S.eM,Zgk,wpEs];refine congrArg (λ q=>wpE I dep lk env a at_ st c q H) (funext λ v=>funext λ b=>funext λ c1=>?_);rw[wpEs,S.wpOp,if_neg (by decide),if_neg (by decide),if_neg (by decide),if_neg (by decide),if_pos rfl];rfl
def S.b8 (I:Img)(dep:Int)(name:ByteArray)(at_:Nat)(vs:List Int)(st:S.Vw)(c:Nat)(Q H:Int->S.Vw->Nat->Prop):Prop :=
 ∃d R,Real I name false (st.args vs) d R/\d<=dep/\∀ret o k,R ret o k->(match o with
  | .ret st2=>Q (st2.reg 4) st2 (c+2*at_+vs.length+4+k)
  | .halt code st2=>H code st2 (c+2*at_+vs.length+4+k)
  | .left _ _=>False)
theorem Zqw (nm:ByteArray)(l:List S.BE):wpE I dep lk env (S.eF nm l) at_ st c Q H=wpEs I dep lk env l at_ st c (λ vs a c1=>b8 I dep nm at_ vs a c1 Q H) H:=by
 rw[S.eF,Zgk];refine congrArg (λ q=>wpEs I dep lk env l at_ st c q H) (funext λ v=>funext λ a=>funext λ c1=>?_);rw[S.wpOp,if_neg (by decide),if_neg (by decide),if_neg (by decide),if_neg (by decide),if_neg (by decide),if_pos rfl];rfl
theorem Z58 (nm:ByteArray)(a:S.BE):wpE I dep lk env (S.eF nm [a]) at_ st c Q H=wpE I dep lk env a at_ st c (λ v b c1=>b8 I dep nm at_ [v] b c1 Q H) H:=by
 rw[Zqw,wpEs];refine congrArg (λ q=>wpE I dep lk env a at_ st c q H) (funext λ v=>funext λ b=>funext λ c1=>?_);rw[wpEs]
theorem Z7p (a b:S.BE):wpE I dep lk env (S.eQ a b) at_ st c Q H =
 wpE I dep lk env a at_ st c (λ v d c1=>wpE I dep lk env b (at_+1) d c1 (λ u e c2=>Q (if v=u then 1 else 0) e (c2+3)) H) H:=by
 rw[S.eQ,Zgk,wpEs];refine congrArg (λ q=>wpE I dep lk env a at_ st c q H) (funext λ v=>funext λ d=>funext λ c1=>?_);rw[wpEs];refine congrArg (λ q=>wpE I dep lk env b (at_+1) d c1 q H) (funext λ u=>funext λ e=>funext λ c2=>?_);rw[wpEs,S.wpOp,if_neg (by decide),if_neg (by decide),if_neg (by decide),if_neg (by decide),if_neg (by decide),if_neg (by decide),if_pos rfl];rfl
theorem Z7q:wpE I dep lk env S.eK at_ st c Q H=Q lk st (c+1):=by
 rw[S.eK,Zgk,wpEs,S.wpOp,if_neg (by decide),if_neg (by decide),if_neg (by decide),if_neg (by decide),if_neg (by decide),if_neg (by decide),if_neg (by decide),if_neg (by decide),if_neg (by decide),if_pos rfl]
end
section
variable {I:Img}{dep lk:Int}{behind:Bool}{env:List Int}{st:S.Vw}{c:Nat}{Q:List Int->S.Vw->Nat->Prop}{R:BO->Nat->Prop}
theorem Zhw {a:S.BE}{at_:Nat}{T:List Int->S.Vw->Nat->Prop}{H:Int->S.Vw->Nat->Prop}:wpEs I dep lk env [a] at_ st c T H=wpE I dep lk env a at_ st c (λ v b c1=>T [v] b c1) H:=by
 rw[wpEs];refine congrArg (λ q=>wpE I dep lk env a at_ st c q H) (funext λ v=>funext λ b=>funext λ c1=>?_);rw[wpEs]
theorem Z59 {a b:S.BE}{at_:Nat}{T:List Int->S.Vw->Nat->Prop}{H:Int->S.Vw->Nat->Prop}:wpEs I dep lk env [a,b] at_ st c T H =
 wpE I dep lk env a at_ st c (λ v d c1=>wpE I dep lk env b (at_+1) d c1 (λ u e c2=>T [v,u] e c2) H) H:=by
 rw[wpEs];refine congrArg (λ q=>wpE I dep lk env a at_ st c q H) (funext λ v=>funext λ d=>funext λ c1=>?_);rw[Zhw]
theorem Zxl:wpSs I dep lk behind [] env st c Q R=Q env st c:=by rw[wpSs]
theorem Zbp (s:S.BS)(r:List S.BS):wpSs I dep lk behind (s::r) env st c Q R=wpS I dep lk behind s env st c (λ Z1a a c1=>wpSs I dep lk behind r Z1a a c1 Q R) R:=by rw[wpSs]
theorem Zxm (n:Int)(e:S.BE):wpS I dep lk behind (S.sAs n e) env st c Q R=wpE I dep lk env e 0 st c (λ v a c1=>Q (env.set n.toNat v) a (c1+1)) (λ code st c=>R (.halt code st) c):=by
 rw[S.sAs,wpS,if_neg (by decide),Zhw];refine congrArg (λ q=>wpE I dep lk env e 0 st c q _) (funext λ v=>funext λ a=>funext λ c1=>?_);rw[if_pos rfl];rfl
theorem Zqx (a:S.BE)(n:Int)(e:S.BE):wpS I dep lk behind (S.sPut a n e) env st c Q R =
 wpE I dep lk env a 0 st c (λ p b c1=>wpE I dep lk env e 1 b c1 (λ v d c2=>u32m (p+n)<I.size/\¬I.stk (u32m (p+n))/\¬I.code (u32m (p+n))/\Q env (d.sto (u32m (p+n)) v) (c2+1)) (λ code st c=>R (.halt code st) c)) (λ code st c=>R (.halt code st) c):=by
 rw[S.sPut,wpS,if_neg (by decide),Z59];refine congrArg (λ q=>wpE I dep lk env a 0 st c q _) (funext λ p=>funext λ b=>funext λ c1=>?_);refine congrArg (λ q=>wpE I dep lk env e 1 b c1 q _) (funext λ v=>funext λ d=>funext λ c2=>?_);rw[if_neg (by decide),if_pos rfl];rfl
theorem Zxn (e:S.BE)(b l:List S.BS):wpS I dep lk behind (S.sIf e b l) env st c Q R =
 wpE I dep lk env e 0 st c (λ v a c1=>if v=0 then wpSs I dep lk behind l env a (c1+4) Q R else wpSs I dep lk behind b env a (c1+4) (λ Zkd d c2=>Q Zkd d (c2+3)) R) (λ code st c=>R (.halt code st) c):=by
 rw[S.sIf,wpS,if_neg (by decide),Zhw];refine congrArg (λ q=>wpE I dep lk env e 0 st c q _) (funext λ v=>funext λ a=>funext λ c1=>?_);rw[if_neg (by decide),if_neg (by decide),if_pos rfl];rfl
theorem Z1t (e:S.BE)(b:List S.BS):wpS I dep lk behind (S.sWh e b) env st c Q R =
 ∃J:List Int->S.Vw->Nat->Nat->Prop,(∃k,J env st c k)/\∀env st c k,J env st c k ->
  wpE I dep lk env e 0 st c (λ v a c1=>if v=0 then Q env a (c1+4) else wpSs I dep lk behind b env a (c1+4) (λ Zkd d c2=>∃k2,k2<k/\J Zkd d (c2+3) k2) R) (λ code st c=>R (.halt code st) c):=by
 rw[S.sWh,wpS,if_pos rfl];simp only[Zhw];rfl
theorem Z36 (regs:List Int)(l:List S.BE):wpS I dep lk behind (S.sRet regs l) env st c Q R=wpEs I dep lk env l 0 st c (λ vs a c1=>R (.ret (a.regs regs vs)) (c1+regs.length+(if behind=true then 5 else 3))) (λ code st c=>R (.halt code st) c):=by
 rw[S.sRet,wpS,if_neg (by decide)];refine congrArg (λ q=>wpEs I dep lk env l 0 st c q _) (funext λ v=>funext λ a=>funext λ c1=>?_);rw[if_neg (by decide),if_neg (by decide),if_neg (by decide),if_pos rfl]
theorem Zxo (e:S.BE):wpS I dep lk behind (S.sBk e) env st c Q R=wpE I dep lk env e 0 st c (λ v a c1=>R (.ret (a.set 4 v)) (c1+1+(if behind=true then 5 else 3))) (λ code st c=>R (.halt code st) c):=by
 rw[S.sBk,Z36,Zhw];rfl
theorem Z1u (e:S.BE):wpS I dep lk behind (S.sDo e) env st c Q R=wpE I dep lk env e 0 st c (λ v a c1=>Q env a c1) (λ code st c=>R (.halt code st) c):=by
 rw[S.sDo,wpS,if_neg (by decide),Zhw];refine congrArg (λ q=>wpE I dep lk env e 0 st c q _) (funext λ v=>funext λ a=>funext λ c1=>?_);rw[if_neg (by decide),if_neg (by decide),if_neg (by decide),if_neg (by decide),if_pos rfl]
theorem Zxp (e:S.BE):wpS I dep lk behind (S.sHlt e) env st c Q R=wpE I dep lk env e 0 st c (λ v a c1=>R (.halt v a) (c1+1)) (λ code st c=>R (.halt code st) c):=by
 rw[S.sHlt,wpS,if_neg (by decide),Zhw];refine congrArg (λ q=>wpE I dep lk env e 0 st c q _) (funext λ v=>funext λ a=>funext λ c1=>?_);rw[if_neg (by decide),if_neg (by decide),if_neg (by decide),if_neg (by decide),if_neg (by decide),if_neg (by decide),if_pos rfl];rfl
theorem Zxq (n:Int)(e:S.BE):wpS I dep lk behind (S.sSet n e) env st c Q R=wpE I dep lk env e 0 st c (λ v a c1=>Q env (a.set n v) (c1+1)) (λ code st c=>R (.halt code st) c):=by
 rw[S.sSet,wpS,if_neg (by decide),Zhw];refine congrArg (λ q=>wpE I dep lk env e 0 st c q _) (funext λ v=>funext λ a=>funext λ c1=>?_);rw[if_neg (by decide),if_neg (by decide),if_neg (by decide),if_neg (by decide),if_neg (by decide),if_neg (by decide),if_neg (by decide),if_pos rfl];rfl
end
end
namespace S
def eAdd (a b:BE):BE:=eB 1 a b
def eSub (a b:BE):BE:=eB 2 a b
def eAnd (a b:BE):BE:=eB 7 a b
def eLt (a b:BE):BE:=eB 14 a b
def eShr (a:BE)(n:Int):BE:=eB 11 a (eC n)
def eShl (a:BE)(n:Int):BE:=eB 10 a (eC n)
def eNot (a:BE):BE:=eQ a (eC 0)
def eW (n:Int):BE:=eM (eC n) 0
def eRef (a:BE):BE:=eB 8 (eShl a 2) (eC 1)
def eAdr (a:BE):BE:=eShr a 2
def sKeep (n:Int)(e:BE):BS:=sPut (eC n) 0 e
def sWhen (e:BE)(b:List BS):BS:=sIf e b []
def sVal (e:BE):BS:=sBk e
def isRef (a:BE):BE:=eQ (eAnd a (eC 3)) (eC 1)
def kMove:ByteArray:=⟨#[109,111,118,101]⟩
def kScan:ByteArray:=⟨#[115,99,97,110]⟩
def kFrame:ByteArray:=⟨#[102,114,97,109,101]⟩
def kCollect:ByteArray:=⟨#[99,111,108,108,101,99,116]⟩
def kReserve:ByteArray:=⟨#[114,101,115,101,114,118,101]⟩
def Z6a:ByteArray:=⟨#[99,111,110,115]⟩
def Z1v:ByteArray:=⟨#[98,101,103,105,110]⟩
def kStatic:ByteArray:=⟨#[115,116,97,116,105,99]⟩
def kCode:ByteArray:=⟨#[99,111,100,101]⟩
def kMore:ByteArray:=⟨#[109,111,114,101]⟩
def kEnd:ByteArray:=⟨#[101,110,100]⟩
def Z7r:ByteArray:=⟨#[109,97,105,110]⟩
def kF0:ByteArray:=⟨#[102,48]⟩
def kRt (n:Int):ByteArray:=⟨([114,116]++itoa n).toArray⟩
def rMove:BR:=⟨kMove,1,4,false,
 [sWhen (eNot (isRef (eL 0))) [sVal (eL 0)],
  sAs 1 (eAdr (eL 0)),
  sWhen (eNot (eLt (eSub (eL 1) (eW 2)) (eW 4))) [sVal (eL 0)],
  sAs 2 (eM (eL 1) 0),
  sWhen (isRef (eL 2)) [sVal (eL 2)],
  sAs 2 (eShr (eL 2) 5),
  sAs 3 (eC 0),
  sWh (eNot (eLt (eL 2) (eL 3))) [sPut (eAdd (eR 29) (eL 3)) 0 (eM (eAdd (eL 1) (eL 3)) 0),sAs 3 (eAdd (eL 3) (eC 1))],
  sPut (eL 1) 0 (eRef (eR 29)),
  sSet 29 (eAdd (eR 29) (eL 3)),
  sVal (eM (eL 1) 0)]⟩
def bScan:List BS:=[sPut (eL 0) 0 (eF kMove [eM (eL 0) 0]),sAs 0 (eAdd (eL 0) (eC 1))]
def rScan:BR:=⟨kScan,2,2,false,[sWh (eLt (eL 0) (eL 1)) bScan]⟩
def rFrame:BR:=⟨kFrame,1,5,false,
 [sAs 1 (eAdd (eL 0) (eM (eL 0) 0)),
  sAs 2 (eC 32),
  sWh (eLt (eL 0) (eL 1))
   [sAs 0 (eAdd (eL 0) (eC 1)),
    sAs 3 (eM (eL 0) 0),
    sWhen (eQ (eL 2) (eC 1056)) [sAs 2 (eA kMore)],
    sAs 4 (eAdd (eL 2) (eC 32)),
    sWh (eLt (eL 2) (eL 4))
     [sWhen (eAnd (eL 3) (eC 1)) [sDo (eF kScan [eL 2,eAdd (eL 2) (eC 1)])],
      sAs 3 (eShr (eL 3) 1),
      sAs 2 (eAdd (eL 2) (eC 1))]]]⟩
def rCollect:BR:=⟨kCollect,0,1,false,
 [sSet 29 (eW 3),
  sDo (eF kScan [eC 5,eC 6]),
  sDo (eF kScan [eC 16,eAdd (eC 16) (eW 8)]),
  sWhen (eW 6) [sDo (eF kFrame [eW 6])],
  sDo (eF kScan [eC 1312,eA kCode]),
  sAs 0 (eW 3),
  sWh (eLt (eL 0) (eR 29)) bScan,
  sAs 0 (eW 2),
  sKeep 2 (eW 3),
  sKeep 3 (eL 0),
  sSet 26 (eR 29),
  sSet 27 (eAdd (eW 2) (eW 4))]⟩
def eShort:BE:=eLt (eSub (eR 27) (eR 26)) (eL 0)
def rReserve:BR:=⟨kReserve,1,1,false,[sAs 0 (eAdd (eL 0) (eW 7)),sWhen eShort [sDo (eF kCollect []),sWhen eShort [sHlt (eC 255)]]]⟩
def Z7s:BR:=⟨Z6a,2,2,false,
 [sPut (eR 26) 0 (eC 67),sPut (eR 26) 1 (eL 0),sPut (eR 26) 2 (eL 1),sSet 26 (eAdd (eR 26) (eC 3)),sVal (eRef (eSub (eR 26) (eC 3)))]⟩
def Z6b (n:BE):List BS:=[sKeep 16 (eR 1),sKeep 23 (eR 10),sKeep 17 (eR 4),sKeep 18 (eR 5),sKeep 19 (eR 6),sKeep 20 (eR 7),sKeep 21 (eR 8),sKeep 22 (eR 9),sKeep 6 (eC 0),
 sIf (eLt (eC 6) n) [sKeep 8 (eC 8)] [sKeep 8 (eAdd n (eC 1))]]
def Zr0:List BS:=[sKeep 8 (eC 0),sRet [1,4,5,6,7,8,9,10] [eW 16,eW 17,eW 18,eW 19,eW 20,eW 21,eW 22,eW 23]]
def Z6c:BR:=⟨kRt 100,0,2,false,[sAs 0 (eR 2),sAs 1 (eR 3)]++Z6b (eL 0)++[sDo (eF kReserve [eL 1])]++Zr0⟩
def Z37 (n from_ at_:BE)(atN locl:Int):List BS :=
 [sAs locl (eW 23),sKeep 23 (eRef (eR 26)),
  sWh n [sPut (eR 26) 0 (eC 67),sPut (eR 26) 1 (eM (eAdr from_) 1),sAs locl (eM (eAdr from_) 2),sSet 26 (eAdd (eR 26) (eC 3)),sPut (eSub (eR 26) (eC 3)) 2 (eRef (eR 26)),sAs atN (eSub at_ (eC 1))],
  sPut (eSub (eR 26) (eC 3)) 2 (eC 38)]
def Z7t:BR:=⟨kRt 101,0,5,false,
 [sAs 0 (eR 2),sAs 1 (eR 3),sAs 2 (eL 1)]++Z6b (eL 0) ++
 [sWhen (eLt (eC 6) (eL 2)) [sAs 2 (eC 6)],
  sAs 2 (eSub (eL 0) (eL 2)),
  sDo (eF kReserve [eAdd (eL 2) (eShl (eL 2) 1)]),
  sAs 2 (eC 0),
  sIf (eLt (eC 6) (eL 0)) (sAs 2 (eSub (eL 0) (eC 6))::Z37 (eL 2) (eL 3) (eL 2) 2 3) [sKeep 23 (eC 38)],
  sWhen (eLt (eL 1) (eC 6))
   [sAs 3 (eW 23),sAs 4 (eL 0),sWhen (eLt (eC 6) (eL 4)) [sAs 4 (eC 6)],
    sWh (eLt (eL 1) (eL 4)) [sAs 4 (eSub (eL 4) (eC 1)),sAs 3 (eF Z6a [eM (eAdd (eL 4) (eC 17)) 0,eL 3])],
    sPut (eAdd (eL 1) (eC 17)) 0 (eL 3)]]++Zr0⟩
def Z1w (v:BE):BE:=eAnd (eM (eAdr v) 0) (eC 31)
def Z6d (v:BE)(yes no:List BS):BS:=sIf (isRef v) [sIf (eQ (Z1w v) (eC 3)) yes no] no
def Z6e:BR:=⟨kRt 102,0,6,false,
 [sAs 0 (eR 4),sAs 1 (eR 2),sAs 2 (eR 10),sAs 3 (eC 0),sAs 4 (eL 2),
  sWhen (eNot (isRef (eL 0))) [sHlt (eC 6)],
  sWhen (eNot (eQ (Z1w (eL 0)) (eC 11))) [sHlt (eC 6)],
  sAs 5 (eC 1),
  sWh (eL 5) [Z6d (eL 4) [sAs 3 (eAdd (eL 3) (eC 1)),sWhen (eLt (eC 1048576) (eL 3)) [sHlt (eC 3)],sAs 4 (eM (eAdr (eL 4)) 2)] [sAs 5 (eC 0)]],
  sWhen (eNot (eQ (eL 4) (eC 38))) [sHlt (eC 2)],
  sKeep 17 (eR 5),sKeep 18 (eR 6),sKeep 19 (eR 7),sKeep 20 (eR 8),sKeep 21 (eR 9),
  sAs 4 (eL 2),sAs 5 (eL 1),
  sWh (eLt (eL 5) (eC 6)) [Z6d (eL 4) [sPut (eAdd (eL 5) (eC 17)) 0 (eM (eAdr (eL 4)) 1),sAs 4 (eM (eAdr (eL 4)) 2)] [],sAs 5 (eAdd (eL 5) (eC 1))],
  sSet 1 (eL 0),sSet 2 (eAdd (eL 1) (eL 3)),sSet 10 (eL 4),
  sSet 4 (eW 17),sSet 5 (eW 18),sSet 6 (eW 19),sSet 7 (eW 20),sSet 8 (eW 21),sSet 9 (eW 22),
  sGo (eShr (eM (eAdr (eR 1)) 1) 2)]⟩
def Z6f:BR:=⟨Z1v,0,1,false,
 [sKeep 4 (eShr (eW 1) 1),sKeep 2 (eA kEnd),sKeep 3 (eAdd (eW 2) (eW 4)),sKeep 6 (eC 0),sKeep 8 (eC 0),sAs 0 (eC 1312),
  sWh (eLt (eL 0) (eA kStatic)) [sPut (eL 0) 0 (eC 70),sAs 0 (eAdd (eL 0) (eC 1))],
  sSet 26 (eW 2),sSet 27 (eW 3),sSet 1 (eC 0),sSet 2 (eC 0),Z82 kF0]⟩
def Z0q (n code:Int):BR:=⟨kRt n,0,0,false,[sHlt (eC code)]⟩
def Z6g:Obj:=⟨kStart,[bL kStart,bI 15 28 0 0 1056,bA 25 Z1v,bI 33 0 25 0 0]⟩
def oMain:Obj:=⟨Z7r,[bL kF0,bI 15 4 0 0 9,bI 36 0 4 0 0]⟩
def ofR (r:BR):Obj:=⟨r.name,bItems r⟩
def rs26:List BR:=[Z6f,rMove,rScan,rFrame,rCollect,rReserve,Z7s,Z6c,Z7t,Z6e,Z0q 103 5,Z0q 104 2,Z0q 105 6,Z0q 106 0]
def objs26:List Obj:=Z6g::rs26.map ofR
end S
section
namespace S
inductive AV where
 | int (k:IntKind) (n:Int)
 | bool (b:Bool)
 | str (s:ByteArray)
 | fn (f:FuncId)
 | row (n:Nat) (cs:List AV)
 | agg (cs:List AV)
 | tup (vs:List AV)
 | box (id off:Nat)
 | ptr (cs:List AV) (off:Nat)
 | any
def AV.cell:AV->Bool
 | .int _ _ | .bool _ | .str _ | .fn _ | .row _ _=>true
 | _=>false
def AV.cells:AV->Option (List AV)
 | .agg cs=>some cs
 | .int k n=>some [.int k n]
 | .bool b=>some [.bool b]
 | .str s=>some [.str s]
 | .fn f=>some [.fn f]
 | .row n cs=>some [.row n cs]
 | _=>none
def AV.free:AV->Bool
 | .box _ _ | .ptr _ _ | .any=>false
 | _=>true
abbrev Tail:=Option (TypeId×Nat)
abbrev Ent:=TypeId×List AV
structure St where
 sl:Nat->Option AV
 tl:Nat->Tail
 hp:Nat->Option Ent
inductive Rd (α:Type) where
 | done (a:α)
 | fail
 | sl (t:Nat) (k:Option AV->Rd α)
 | tl (t:Nat) (k:Tail->Rd α)
 | hp (i:Nat) (k:Option Ent->Rd α)
namespace Rd
def bind {α β:Type}:Rd α->(α->Rd β)->Rd β
 | .done a,f=>f a
 | .fail,_=>.fail
 | .sl t k,f=>.sl t λ x=>(k x).bind f
 | .tl t k,f=>.tl t λ x=>(k x).bind f
 | .hp t k,f=>.hp t λ x=>(k x).bind f
def run {α:Type}:Rd α->St->Option (α×List Nat)
 | .done a,_=>some (a,[])
 | .fail,_=>none
 | .sl t k,s=>match (k (s.sl t)).run s with|some (a,l)=>some (a,(3*t)::l) | none=>none
 | .tl t k,s=>match (k (s.tl t)).run s with|some (a,l)=>some (a,(3*t+1)::l) | none=>none
 | .hp t k,s=>match (k (s.hp t)).run s with|some (a,l)=>some (a,(3*t+2)::l) | none=>none
def ofOpt {α:Type}:Option α->Rd α
 | some a=>.done a
 | none=>.fail
end Rd
structure Eff where
 dst:Option (Nat×AV×Tail)
 drop:Option Nat
 ent:Option (Nat×Ent)
def Eff.apply (e:Eff)(s:St):St where
 sl:=λ t=>match e.dst with
  | some (d,v,_)=>if t=d then some v else s.sl t
  | none=>s.sl t
 tl:=λ t=>match e.dst with
  | some (d,_,z)=>if t=d then z else if e.drop=some t then none else s.tl t
  | none=>if e.drop=some t then none else s.tl t
 hp:=λ i=>match e.ent with
  | some (k,x)=>if i=k then some x else s.hp i
  | none=>s.hp i
def Eff.writes (e:Eff):List Nat :=
 (match e.dst with|some (d,_,_)=>[3*d,3*d+1] | none=>[])++(match e.drop with|some t=>[3*t+1] | none=>[])++(match e.ent with|some (k,_)=>[3*k+2] | none=>[])
def same (r:Nat)(s s':St):Prop:=if r%3=0 then s.sl (r/3)=s'.sl (r/3) else if r%3=1 then s.tl (r/3)=s'.tl (r/3) else s.hp (r/3)=s'.hp (r/3)
end S
open S in
theorem Zr1 (t:Nat)(s s':St):same (3*t) s s'↔s.sl t=s'.sl t:=by
 unfold same;rw[if_pos (by omega),show 3*t/3=t by omega]
open S in
theorem Zr2 (t:Nat)(s s':St):same (3*t+1) s s'↔s.tl t=s'.tl t:=by
 unfold same;rw[if_neg (by omega),if_pos (by omega),show(3*t+1)/3=t by omega]
open S in
theorem Zr3 (t:Nat)(s s':St):same (3*t+2) s s'↔s.hp t=s'.hp t:=by
 unfold same;rw[if_neg (by omega),if_neg (by omega),show(3*t+2)/3=t by omega]
theorem S.same.refl (r:Nat)(s:S.St):S.same r s s:=by
 unfold S.same
 split
 .rfl
 .split <;> rfl
theorem S.same.trans {r:Nat}{a b c:S.St}(h:S.same r a b)(k:S.same r b c):S.same r a c:=by
 unfold S.same at *
 split at h
 .rw[if_pos (by assumption)] at k⊢;exact h.trans k
 .rw[if_neg (by assumption)] at k⊢
  split at h
  .rw[if_pos (by assumption)] at k⊢;exact h.trans k
  .rw[if_neg (by assumption)] at k⊢;exact h.trans k
theorem S.same.symm {r:Nat}{a b:S.St}(h:S.same r a b):S.same r b a:=by
 unfold S.same at *
 split at h
 .rw[if_pos (by assumption)];exact h.symm
 .rw[if_neg (by assumption)]
  split at h
  .rw[if_pos (by assumption)];exact h.symm
  .rw[if_neg (by assumption)];exact h.symm
theorem Z1x {s s':S.St}(h:∀r,S.same r s s'):s=s':=by
 obtain⟨a,b,c⟩:=s;obtain⟨f,e,d⟩:=s';have h1:a=f:=funext λ t=>(Zr1 t _ _).1 (h _)
 have h2:b=e:=funext λ t=>(Zr2 t _ _).1 (h _)
 have h3:c=d:=funext λ t=>(Zr3 t _ _).1 (h _)
 rw[h1,h2,h3]
theorem Zjr (r:Nat):(∃t,r=3*t)\/(∃t,r=3*t+1)\/∃t,r=3*t+2:=by
 by_cases h:r%3=0
 .exact .inl ⟨r/3,by omega⟩
 .by_cases h1:r%3=1
  .exact .inr (.inl ⟨r/3,by omega⟩)
  .exact .inr (.inr ⟨r/3,by omega⟩)
open S in
theorem Zde {e:Eff}{r:Nat}(h:r ∉ e.writes)(s:St):same r (e.apply s) s:=by
 obtain⟨dst,drop,ent⟩:=e;unfold Eff.writes at h;simp only[List.mem_append,not_or] at h;obtain⟨⟨h1,h2⟩,h3⟩:=h;rcases Zjr r with⟨t,rfl⟩|⟨t,rfl⟩|⟨t,rfl⟩
 .rw[Zr1]
  unfold Eff.apply;rcases dst with _|⟨d,v,z⟩
  .rfl
  .simp only[Yz,Yaq,or_false,not_or] at h1⊢
   rw[if_neg (by omega)]
 .rw[Zr2]
  unfold Eff.apply;have a:drop≠some t:=by
   rcases drop with _|d
   .simp
   .simp only[Yz,Yaq,or_false] at h2
    intro e
    cases e
    exact h2 rfl
  rcases dst with _|⟨d,v,z⟩
  .simp only;rw[if_neg a]
  .simp only[Yz,Yaq,or_false,not_or] at h1⊢
   rw[if_neg (by omega),if_neg a]
 .rw[Zr3]
  unfold Eff.apply;rcases ent with _|⟨k,x⟩
  .rfl
  .simp only[Yz,Yaq,or_false] at h3⊢
   rw[if_neg (by omega)]
open S in
theorem Zo9 {e:Eff}{r:Nat}(h:r∈e.writes)(s s':St):same r (e.apply s) (e.apply s'):=by
 obtain⟨dst,drop,ent⟩:=e;unfold Eff.writes at h;rcases Zjr r with⟨t,rfl⟩|⟨t,rfl⟩|⟨t,rfl⟩
 .rw[Zr1]
  unfold Eff.apply;rcases dst with _|⟨d,v,z⟩
  .exfalso
   rcases drop with _|d <;> rcases ent with _|⟨k,x⟩ <;> simp at h <;> omega
  .by_cases c:t=d
   .simp only[c,if_true]
   .exfalso
    rcases drop with _|d <;> rcases ent with _|⟨k,x⟩ <;> simp at h <;> omega
 .rw[Zr2]
  unfold Eff.apply;rcases dst with _|⟨d,v,z⟩
  .by_cases c:drop=some t
   .simp only[c,if_true]
   .exfalso
    rcases drop with _|d <;> rcases ent with _|⟨k,x⟩ <;> simp at h c <;> omega
  .by_cases c0:t=d
   .simp only[c0,if_true]
   .by_cases c:drop=some t
    .simp only[c,if_true,if_neg c0]
    .exfalso
     rcases drop with _|d <;> rcases ent with _|⟨k,x⟩ <;> simp at h c <;> omega
 .rw[Zr3]
  unfold Eff.apply;rcases ent with _|⟨k,x⟩
  .exfalso
   rcases drop with _|d <;> rcases dst with _|⟨d,v,z⟩ <;> simp at h <;> omega
  .by_cases c:t=k
   .simp only[c,if_true]
   .exfalso
    rcases drop with _|d <;> rcases dst with _|⟨d,v,z⟩ <;> simp at h <;> omega
theorem Ztm {e:S.Eff}{r:Nat}{s s':S.St}(h:S.same r s s'):S.same r (e.apply s) (e.apply s'):=by
 by_cases c:r∈e.writes
 .exact Zo9 c s s'
 .exact((Zde c s).trans h).trans (Zde c s').symm
theorem Zid {α:Type}:∀(m:S.Rd α) {s s':S.St} {x:α} {l:List Nat},m.run s=some (x,l)->(∀r∈l,S.same r s s')->m.run s'=some (x,l)
 | .done a,s,s',x,l,h,_=>by
  unfold S.Rd.run at h⊢;exact h
 | .fail,s,s',x,l,h,_=>by simp[S.Rd.run] at h
 | .sl t k,s,s',x,l,h,hs=>by
  unfold S.Rd.run at h⊢
  cases hk:(k (s.sl t)).run s with
  | none=>rw[hk] at h;simp at h
  | some p =>
   obtain⟨a,d⟩:=p;rw[hk] at h;simp only[Option.some.injEq,Prod.mk.injEq] at h;obtain⟨rfl,rfl⟩:=h;have e:s.sl t=s'.sl t:=(Zr1 t s s').1 (hs _ Yv);have:=Zid (k (s.sl t)) hk (s':=s') λ r b=>hs r (Yy _ b)
   rw[e] at this;rw[this]
 | .tl t k,s,s',x,l,h,hs=>by
  unfold S.Rd.run at h⊢
  cases hk:(k (s.tl t)).run s with
  | none=>rw[hk] at h;simp at h
  | some p =>
   obtain⟨a,d⟩:=p;rw[hk] at h;simp only[Option.some.injEq,Prod.mk.injEq] at h;obtain⟨rfl,rfl⟩:=h;have e:s.tl t=s'.tl t:=(Zr2 t s s').1 (hs _ Yv);have:=Zid (k (s.tl t)) hk (s':=s') λ r b=>hs r (Yy _ b)
   rw[e] at this;rw[this]
 | .hp t k,s,s',x,l,h,hs=>by
  unfold S.Rd.run at h⊢
  cases hk:(k (s.hp t)).run s with
  | none=>rw[hk] at h;simp at h
  | some p =>
   obtain⟨a,d⟩:=p;rw[hk] at h;simp only[Option.some.injEq,Prod.mk.injEq] at h;obtain⟨rfl,rfl⟩:=h;have e:s.hp t=s'.hp t:=(Zr3 t s s').1 (hs _ Yv);have:=Zid (k (s.hp t)) hk (s':=s') λ r b=>hs r (Yy _ b)
   rw[e] at this;rw[this]
theorem Zl {α β:Type}:∀(m:S.Rd α)(f:α->S.Rd β) {s:S.St} {y:β} {l:List Nat},(m.bind f).run s=some (y,l)->∃x l1 l2,m.run s=some (x,l1)/\(f x).run s=some (y,l2)
 | .done a,f,s,y,l,h=>⟨a,[],l,rfl,h⟩
 | .fail,f,s,y,l,h=>by simp[S.Rd.bind,S.Rd.run] at h
 | .sl t k,f,s,y,l,h=>by
  unfold S.Rd.bind S.Rd.run at h
  cases hk:((k (s.sl t)).bind f).run s with
  | none=>rw[hk] at h;simp at h
  | some p =>
   obtain⟨a,b⟩:=p;rw[hk] at h;simp only[Option.some.injEq,Prod.mk.injEq] at h;obtain⟨rfl,rfl⟩:=h;obtain⟨x,l1,l2,h1,h2⟩:=Zl (k (s.sl t)) f hk;exact⟨x,_,l2,by rw[S.Rd.run,h1],h2⟩
 | .tl t k,f,s,y,l,h=>by
  unfold S.Rd.bind S.Rd.run at h
  cases hk:((k (s.tl t)).bind f).run s with
  | none=>rw[hk] at h;simp at h
  | some p =>
   obtain⟨a,b⟩:=p;rw[hk] at h;simp only[Option.some.injEq,Prod.mk.injEq] at h;obtain⟨rfl,rfl⟩:=h;obtain⟨x,l1,l2,h1,h2⟩:=Zl (k (s.tl t)) f hk;exact⟨x,_,l2,by rw[S.Rd.run,h1],h2⟩
 | .hp t k,f,s,y,l,h=>by
  unfold S.Rd.bind S.Rd.run at h
  cases hk:((k (s.hp t)).bind f).run s with
  | none=>rw[hk] at h;simp at h
  | some p =>
   obtain⟨a,b⟩:=p;rw[hk] at h;simp only[Option.some.injEq,Prod.mk.injEq] at h;obtain⟨rfl,rfl⟩:=h;obtain⟨x,l1,l2,h1,h2⟩:=Zl (k (s.hp t)) f hk;exact⟨x,_,l2,by rw[S.Rd.run,h1],h2⟩
theorem Zaf {α:Type}{o:Option α}{s:S.St}{y:α}{l:List Nat}(h:(S.Rd.ofOpt o).run s=some (y,l)):o=some y:=by
 cases o with
 | none=>simp[S.Rd.ofOpt,S.Rd.run] at h
 | some a=>simp[S.Rd.ofOpt,S.Rd.run] at h;rw[h.1]
namespace S
def stL (L:Nat->Bool):List (Eff×List Nat)->Nat->St->St
 | [],_,s=>s
 | (e,_)::r,i,s=>stL L r (i+1) (if L i=true then e.apply s else s)
end S
theorem Zgl {L b:Nat->Bool}{r:Nat}:∀(a:List (S.Eff×List Nat)) (i:Nat) (s s':S.St),S.same r s s'->(∀k e l,a[k]?=some (e,l)->r∈e.writes->L (i+k)=b (i+k))->S.same r (S.stL L a i s) (S.stL b a i s')
 | [],i,s,s',h,_=>h
 | (e,l)::a,i,s,s',h,hw=>by
  unfold S.stL;refine Zgl a (i+1) _ _ ?_ λ k j d g f=>?_
  .by_cases c:r∈e.writes
   .have:=hw 0 e l rfl c
    rw[Ybh] at this;rw[this]
    split
    .exact Ztm h
    .exact h
   .have h1:S.same r (if L i=true then e.apply s else s) s:=by
     split
     .exact Zde c s
     .exact S.same.refl _ _
    have h2:S.same r (if b i=true then e.apply s' else s') s':=by
     split
     .exact Zde c s'
     .exact S.same.refl _ _
    exact(h1.trans h).trans h2.symm
  .have:=hw (k+1) j d (by simpa using g) f
   rw[show i+1+k=i+(k+1) by omega];exact this
theorem Zr4 {L:Nat->Bool}{r:Nat}:∀(a:List (S.Eff×List Nat)) (i k:Nat) (s s':S.St) (e:S.Eff) (l:List Nat),a[k]?=some (e,l)->r∈e.writes->L (i+k)=true->(∀j b d,k<j->a[j]?=some (b,d)->r∈b.writes->L (i+j)=false)->S.same r (S.stL L a i s) (e.apply s')
 | [],i,k,s,s',e,l,hk,_,_,_=>by simp at hk
 | (e0,l0)::a,i,0,s,s',e,l,hk,g,hL,hn=>by
  simp at hk;obtain⟨rfl,rfl⟩:=hk;unfold S.stL;rw[Ybh] at hL;rw[if_pos hL];have o:∀(a:List (S.Eff×List Nat)) (i:Nat) (s:S.St),(∀j b d,a[j]?=some (b,d)->r∈b.writes->L (i+j)=false)->S.same r (S.stL L a i s) s:=by
   intro a
   induction a with
   | nil=>intro i s _;exact S.same.refl _ _
   | cons p a ih =>
    obtain⟨q,l1⟩:=p;intro i s h;unfold S.stL;refine(ih (i+1) _ λ j b d m g=>?_).trans ?_
    .have:=h (j+1) b d (by simpa using m) g
     rw[show i+1+j=i+(j+1) by omega];exact this
    .split
     .rename_i c
      refine Zde (λ hm=>?_) s;have:=h 0 q l1 rfl hm;rw[Ybh,c] at this
      cases this
     .exact S.same.refl _ _
  refine(o a (i+1) _ λ j b d m f=>?_).trans (Zo9 g _ _);have:=hn (j+1) b d (by omega) (by simpa using m) f;rw[show i+1+j=i+(j+1) by omega];exact this
 | (e0,l0)::a,i,k+1,s,s',e,l,hk,g,hL,hn=>by
  unfold S.stL;refine Zr4 a (i+1) k _ s' e l (by simpa using hk) g ?_ λ j b d m n f=>?_
  .rw[show i+1+k=i+(k+1) by omega];exact hL
  .have:=hn (j+1) b d (by omega) (by simpa using n) f
   rw[show i+1+j=i+(j+1) by omega];exact this
namespace S
def befs:List Oper->List Nat->List Nat
 | [],acc=>acc
 | o::r,acc=>befs r (acc++[o.after.toList.foldl (λ m e=>if Yb1 .any e then m ||| (2^e.on) ||| acc.getD e.on 0 else m) 0])
def meets (a b:List Nat):Bool:=a.any λ x=>b.any λ y=>Nat.beq x y
def apart1 (e:Eff)(rs:List Nat)(i:Nat):List (Eff×List Nat)->List Nat->Bool
 | (e',rs')::r,b::br=>(b.testBit i || (!meets e.writes (rs'++e'.writes) && !meets e'.writes rs)) && apart1 e rs i r br
 | _,_=>true
def apartB:List (Eff×List Nat)->List Nat->Nat->Bool
 | (e,rs)::r,_::br,i=>apart1 e rs i r br && apartB r br (i+1)
 | _,_,_=>true
end S
theorem Zjs {a b:List Nat}(h:S.meets a b=false){x:Nat}(e:x∈a):x ∉ b:=λ d=>by
 have h1:S.meets a b=true:=Ybz.2 ⟨x,e,Ybz.2 ⟨x,d,by rw[Nat.beq_eq]⟩⟩;rw[h] at h1
 cases h1
theorem Zpa {e:S.Eff}{rs:List Nat}{i:Nat}:∀(f:List (S.Eff×List Nat)) (g:List Nat),S.apart1 e rs i f g=true->∀(k:Nat)(d:S.Eff)(a:List Nat)(b:Nat),f[k]?=some (d,a)->g[k]?=some b->b.testBit i=true\/(S.meets e.writes (a++d.writes)=false/\S.meets d.writes rs=false)
 | [],_,_,k,d,a,b,hk,_=>by simp at hk
 | _::_,[],_,k,d,a,b,_,hb=>by simp at hb
 | (e1,r1)::f,b1::g,h,k,d,a,b,hk,hb=>by
  simp only[S.apart1,Yu,Ycf,Bool.not_eq_true'] at h
  cases k with
  | zero =>
   simp at hk hb;obtain⟨rfl,rfl⟩:=hk;subst hb;exact h.1
  | succ k=>exact Zpa f g h.2 k d a b (by simpa using hk) (by simpa using hb)
theorem Zjt:∀(f:List (S.Eff×List Nat)) (g:List Nat) (i:Nat),S.apartB f g i=true->∀(j k:Nat)(e:S.Eff)(rs:List Nat)(d:S.Eff)(a:List Nat)(b:Nat),j<k->f[j]?=some (e,rs)->f[k]?=some (d,a)->g[k]?=some b->b.testBit (i+j)=true\/(S.meets e.writes (a++d.writes)=false/\S.meets d.writes rs=false)
 | [],_,_,_,j,k,e,rs,d,a,b,_,hj,_,_=>by simp at hj
 | _::_,[],_,_,j,k,e,rs,d,a,b,_,_,_,hb=>by simp at hb
 | (e1,r1)::f,b1::g,i,h,j,k,e,rs,d,a,b,hjk,hj,hk,hb=>by
  simp only[S.apartB,Yu] at h;obtain⟨k,rfl⟩:∃l,k=l+1:=⟨k-1,by omega⟩
  cases j with
  | zero =>
   simp at hj;obtain⟨rfl,rfl⟩:=hj;rw[Ybh];exact Zpa f g h.1 k d a b (by simpa using hk) (by simpa using hb)
  | succ j =>
   rw[show i+(j+1)=i+1+j by omega];exact Zjt f g (i+1) h.2 j k e rs d a b (by omega) (by simpa using hj) (by simpa using hk) (by simpa using hb)
theorem Zju:∀(ops:List Oper)(acc:List Nat),(S.befs ops acc).length=acc.length+ops.length
 | [],acc=>rfl
 | o::r,acc=>by rw[S.befs,Zju r,List.length_append,Yj,Yj,List.length_nil];omega
theorem Zjv {ops:Array Oper}{C:Nat->Nat->Prop}:∀(d:List Oper)(rest:List Oper)(acc:List Nat),ops.toList=d++rest->acc.length=d.length ->
 (∀i b,acc[i]?=some b->∀j,b.testBit j=true->C i j) ->
 (∀i j,Ybr .any ops i j=true->C i j)->(∀i j k,Ybr .any ops i j=true->C j k->C i k)->∀i b,(S.befs rest acc)[i]?=some b->∀j,b.testBit j=true->C i j
 | d,[],acc,_,_,h,_,_=>h
 | d,o::r,acc,e,n,h,h1,h2=>by
  rw[S.befs];refine Zjv (d++[o]) r _ (by rw[e];simp) (by simp[n]) (λ i b hi j a=>?_) h1 h2;by_cases c:i<acc.length
  .rw[Yn c] at hi
   exact h i b hi j a
  .rw[Yo (by omega)] at hi
   have s:i-acc.length=0:=by
    have:=(Yg.1 hi).1;simp at this;omega
   rw[s,List.getElem?_cons_zero] at hi;have hi:=Option.some.inj hi;have q:ops[i]?=some o:=by
    rw[<- Array.getElem?_toList,e,Yo (by omega)];have:i-d.length=0:=by omega
    rw[this];rfl
   have p:∀(l:List Edge)(m:Nat),(∀f∈l,Yb1 .any f=true->Ybr .any ops i f.on=true)->(∀j,m.testBit j=true->C i j) ->
    ∀j,(l.foldl (λ m e=>if Yb1 .any e then m ||| (2^e.on) ||| acc.getD e.on 0 else m) m).testBit j=true->C i j:=by
    intro l
    induction l with
    | nil=>intro m _ hm;exact hm
    | cons f l ih =>
     intro m n hm;rw[List.foldl_cons];refine ih _ (λ x v=>n x (Yy _ v)) λ j a=>?_
     split at a
     .rename_i g
      have u:=n f Yv g;rw[Nat.testBit_or,Nat.testBit_or,Ycf,Ycf] at a;rcases a with(a|a) | a
      .exact hm j a
      .rw[Nat.testBit_two_pow] at a
       have:f.on=j:=by simpa using a
       rw[<- this];exact h1 i f.on u
      .rw[Ye] at a
       cases ha:acc[f.on]? with
       | none=>rw[ha] at a;simp at a
       | some b' =>
        rw[ha] at a;exact h2 i f.on j u (h f.on b' ha j (by simpa using a))
     .exact hm j a
   subst hi;refine p o.after.toList 0 (λ f t g=>?_) (λ j a=>by simp at a) j a;unfold Ybr;rw[q];simp only
   first|exact Ybz.2 ⟨f,t,by simp[g]⟩ | (simp only[Array.any_eq_true'];exact⟨f,by simpa using t,by simp[g]⟩)
theorem Z0r {a:List (S.Eff×List Nat)}{n:List Nat}(hA:S.apartB a n 0=true)(hl:n.length=a.length){L:Nat->Bool}(w:∀k b,n[k]?=some b->L k=true->∀j,b.testBit j=true->L j=true)
 {i:Nat} {e:S.Eff} {rs:List Nat} (hi:a[i]?=some (e,rs)) (t:L i=false) (A:∀b,n[i]?=some b->∀j,b.testBit j=true->L j=true) (l:S.St) :
 (∀r∈rs,S.same r (S.stL (λ k=>decide (k<i)) a 0 l) (S.stL L a 0 l))/\S.stL (λ k=>if k=i then true else L k) a 0 l=e.apply (S.stL L a 0 l):=by
 have bits:∀k,k<a.length->∃b,n[k]?=some b:=λ k m=>⟨n[k],Yf (by omega)⟩
 have u:∀{k:Nat} {x:S.Eff×List Nat},a[k]?=some x->k<a.length:=λ h=>(Yg.1 h).1
 have d:∀k f g,i<k->a[k]?=some (f,g)->L k=true->S.meets e.writes (g++f.writes)=false/\S.meets f.writes rs=false:=λ k f g y m s=>by
  obtain⟨b,p⟩:=bits k (u m);rcases Zjt a n 0 hA i k e rs f g b y hi m p with h|h
  .rw[Yac] at h
   have:=w k b p s i h;rw[t] at this
   cases this
  .exact h
 refine⟨λ r z=>?_,Z1x λ r=>?_⟩
 .refine Zgl a 0 l l (S.same.refl _ _) λ k f g m o=>?_
  rw[Yac];rcases Nat.lt_trichotomy k i with h|h|h
  .rw[decide_eq_true h]
   obtain⟨b,q⟩:=bits i (u hi);rcases Zjt a n 0 hA k i f g e rs b h m hi q with h1|h1
   .rw[Yac] at h1
    exact(A b q k h1).symm
   .exact absurd (List.mem_append_left _ z) (Zjs h1.1 o)
  .subst h
   rw[t];exact decide_eq_false (Nat.lt_irrefl _)
  .rw[decide_eq_false (by omega)]
   cases s:L k with
   | false=>rfl
   | true=>exact absurd z (Zjs (d k f g h m s).2 o)
 .by_cases c:r∈e.writes
  .refine Zr4 a 0 i l (S.stL L a 0 l) e rs hi c (by rw[Yac,if_pos rfl]) λ j f g B v o=>?_
   rw[Yac,if_neg (by omega)]
   cases s:L j with
   | false=>rfl
   | true=>exact absurd (List.mem_append_right _ o) (Zjs (d j f g B v s).1 c)
  .refine(Zgl a 0 l l (S.same.refl _ _) λ k f g m o=>?_).trans (Zde c _).symm
   rw[Yac]
   split
   .rename_i h
    subst h;rw[hi] at m
    cases m
    exact absurd o c
   .rfl
end
