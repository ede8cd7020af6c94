/- Parts. -/
import Derived.Test.YtcjhmiijbojgeaaGreatDoorZIsaD
set_option linter.all false
set_option maxHeartbeats 40000000
open Go.Lib renaming hid->Ya
namespace Go.Proofs.YtcjhmiijbojgeaaGreatDoor
open S Go.Proofs.Tryz Go.RowKit
set_option maxRecDepth 100000
theorem Z4f (p q:Value)(w:World) :
 Calls prog 155 #[.bool false,p,q] w λ e w'=>e=.returned (.int .i64 0)/\w=w':=by
 go_enter func155,ntmps155
 go_wp2
 go_ret
 exact⟨rfl,rfl⟩
theorem Zk9 (n at_ k:Int)(a b:Nat)(w:World)(hw:w.cell? ⟨a,0,none⟩=some (.int .u32 n))(hb:w.cell? ⟨b,0,none⟩=some (.int .i64 at_))(hf:w.frozen? ⟨b,0,none⟩=false)
 (h0:0<=n) (h1:n<=4294967295) (c:(at_=21/\k=2097152)\/(at_=16/\k=65536)\/(at_=11/\k=2048)) :
 Calls prog 155 #[.bool true,.pointer (some ⟨a,0,none⟩),.pointer (some ⟨b,0,none⟩)] w
  λ e w'=>e=.returned (.int .i64 (n/k%32))/\w.setCell ⟨b,0,none⟩ (.int .i64 (at_-5))=w':=by
 rcases c with⟨rfl,rfl⟩|⟨rfl,rfl⟩|⟨rfl,rfl⟩
 .have hm:=Zaf 5 (n/2097152) 32 31 rfl rfl (by omega) (by omega) (by omega)
  have m0:0<=n/2097152%32:=by omega
  have m1:n/2097152%32<=31:=by omega
  go_enter func155,ntmps155
  go_wp2
  go_ret
  exact⟨rfl,rfl⟩
 .have hm:=Zaf 5 (n/65536) 32 31 rfl rfl (by omega) (by omega) (by omega)
  have m0:0<=n/65536%32:=by omega
  have m1:n/65536%32<=31:=by omega
  go_enter func155,ntmps155
  go_wp2
  go_ret
  exact⟨rfl,rfl⟩
 .have hm:=Zaf 5 (n/2048) 32 31 rfl rfl (by omega) (by omega) (by omega)
  have m0:0<=n/2048%32:=by omega
  have m1:n/2048%32<=31:=by omega
  go_enter func155,ntmps155
  go_wp2
  go_ret
  exact⟨rfl,rfl⟩
theorem Zx1 (n:Int):(chk (raw n)=0/\wordOf (raw n)=n/\dec n=raw n/\decE n=0) \/
 (chk (raw n)=0/\wordOf (raw n)≠n/\dec n=⟨0,0,0,0,0⟩/\decE n=11)\/(chk (raw n)=11/\dec n=⟨0,0,0,0,0⟩/\decE n=11):=by
 cases hd:decB n
 .obtain⟨a,b⟩:=Z11 hd
  cases hg:good (raw n)
  .exact .inr (.inr ⟨Zub hg,a,b⟩)
  .refine .inr (.inl ⟨Zk8 hg,?_,a,b⟩)
   rw[Ze3 hg];intro d;simp[decB,hg,d] at hd
 .have e:dec n=raw n:=by unfold dec;rw[hd];simp
  obtain⟨a,b,c⟩:=Zyh hd;rw[e] at a b;exact .inl ⟨Zk8 a,by rw[Ze3 a,b],e,c⟩
theorem Zuc (n:Int):bits .and .u32 n 0=0:=by
 have h:(BitVec.ofInt 32 n &&& BitVec.ofInt 32 0)=0:=by simp
 show IntKind.u32.wrap ((BitVec.ofInt 32 n &&& BitVec.ofInt 32 0).toNat:Int)=0
 rw[h];rfl
theorem Zf6 {w w':World}{k:Nat}(h:Below w.heap.size w w')(a:w.heap.size<=k)(c f b e d:Value) :
 Below w.heap.size w (((((w'.setCell ⟨k,0,none⟩ c).setCell ⟨k,1,none⟩ f).setCell ⟨k,2,none⟩ b).setCell ⟨k,3,none⟩ e).setCell ⟨k,4,none⟩ d) :=
 ((((h.setCell (p:=⟨k,0,none⟩) a c).setCell (p:=⟨k,1,none⟩) a f).setCell (p:=⟨k,2,none⟩) a b).setCell (p:=⟨k,3,none⟩) a e).setCell (p:=⟨k,4,none⟩) a d
def Z4g (n:Int)(w:World)(e:Ending)(w':World):Prop :=
 e=.returned (.tuple #[.agg #[.int .i64 (dec n).op,.int .i64 (dec n).d,.int .i64 (dec n).a,.int .i64 (dec n).b,.int .i64 (dec n).imm],.int .i64 (decE n)])/\Below w.heap.size w w'
def S.bm (n X0 X1 X2 I bits:Int)(d a b sg:Bool)(A B C:Int):Prop :=
 (bits=0/\d=false/\a=false/\b=false/\sg=false/\X0=0/\X1=0/\X2=0/\I=0)\/(bits=0/\d=true/\a=true/\b=true/\sg=false/\X0=A/\X1=B/\X2=C/\I=0)\/(bits=16/\d=true/\a=true/\b=false/\sg=false/\X0=A/\X1=B/\X2=0/\I=n%65536)\/(bits=16/\d=true/\a=true/\b=false/\sg=true/\X0=A/\X1=B/\X2=0/\I=n%65536/\(n%65536/32768 != 0)=false)\/(bits=16/\d=true/\a=true/\b=false/\sg=true/\X0=A/\X1=B/\X2=0/\I=n%65536-65536/\(n%65536/32768 != 0)=true)\/(bits=16/\d=true/\a=false/\b=false/\sg=false/\X0=A/\X1=0/\X2=0/\I=n%65536)\/(bits=16/\d=false/\a=true/\b=true/\sg=true/\X0=0/\X1=A/\X2=B/\I=n%65536/\(n%65536/32768 != 0)=false)\/(bits=16/\d=false/\a=true/\b=true/\sg=true/\X0=0/\X1=A/\X2=B/\I=n%65536-65536/\(n%65536/32768 != 0)=true)\/(bits=21/\d=true/\a=false/\b=false/\sg=true/\X0=A/\X1=0/\X2=0/\I=n%2097152/\(n%2097152/1048576 != 0)=false)\/(bits=21/\d=true/\a=false/\b=false/\sg=true/\X0=A/\X1=0/\X2=0/\I=n%2097152-2097152/\(n%2097152/1048576 != 0)=true)\/(bits=0/\d=true/\a=false/\b=false/\sg=false/\X0=A/\X1=0/\X2=0/\I=0)\/(bits=0/\d=false/\a=true/\b=false/\sg=false/\X0=0/\X1=A/\X2=0/\I=0)
theorem Zx2 (n:Int)(h0:0<=n):∃(k i f I bits:Int)(d a b g:Bool),raw n=⟨n/67108864,k,i,f,I⟩/\hasD (form (n/67108864))=d/\hasA (form (n/67108864))=a/\hasB (form (n/67108864))=b/\bitsOf (form (n/67108864))=bits/\decide (least (n/67108864)<0)=g/\bm n k i f I bits d a b g (n/2097152%32) (n/65536%32) (n/2048%32):=by
 refine⟨rawD n,rawA n,rawB n,rawI n,_,_,_,_,_,rfl,rfl,rfl,rfl,rfl,rfl,?_⟩;have s1:(n%65536/32768 != 0)=decide (32768<=n%65536):=by
  by_cases c:32768<=n%65536
  .rw[decide_eq_true c,bne_iff_ne];omega
  .rw[decide_eq_false c];simp;omega
 have m:(n%2097152/1048576 != 0)=decide (1048576<=n%2097152):=by
  by_cases c:1048576<=n%2097152
  .rw[decide_eq_true c,bne_iff_ne];omega
  .rw[decide_eq_false c];simp;omega
 have e:=Zdt (n/67108864);have el:form (n/67108864)=5\/form (n/67108864)=4->least (n/67108864)<0:=by unfold least;grind
 have l:least (n/67108864)<0->form (n/67108864)=5\/form (n/67108864)=4\/form (n/67108864)=2:=by unfold least;grind
 unfold bm rawD rawA rawB rawI opOf hasD hasA hasB bitsOf;rw[s1,m];by_cases p1:32768<=n%65536 <;> by_cases p2:1048576<=n%2097152 <;> by_cases j:least (n/67108864)<0 <;> rcases e with⟨h,_⟩|⟨h,_⟩|⟨h,_⟩|⟨h,_⟩|⟨h,_⟩|⟨h,_⟩|⟨h,_⟩|⟨h,_⟩ <;> first
  | (exfalso;rw[h] at el l;revert el l j;simp;done)
  | simp[h,j,p1,p2]
theorem Zrn (n:Int)(w:World)(h0:0<=n)(s:n<=4294967295) :
 Calls prog 87 #[.int .u32 n] w
  λ e w'=>e=.returned (.tuple #[.agg #[.int .i64 (dec n).op,.int .i64 (dec n).d,.int .i64 (dec n).a,.int .i64 (dec n).b,.int .i64 (dec n).imm],.int .i64 (decE n)])/\Below w.heap.size w w':=by
 show Calls prog 87 #[.int .u32 n] w (Z4g n w)
 have J:=Y_f
 have k0:=Zuc n;have k1:=Zaf 16 n 65536 65535 rfl rfl (by omega) h0 (by omega);have k2:=Zaf 21 n 2097152 2097151 rfl rfl (by omega) h0 (by omega);have m0:0<=n%65536:=by omega
 have m1:n%65536<=65535:=by omega
 have m2:0<=n%2097152:=by omega
 have m3:n%2097152<=2097151:=by omega
 obtain⟨X0,X1,X2,I,bits,d,a,b,sg,z,hd,x,g,hi,A,o⟩:=Zx2 n h0;rcases o with⟨rfl,rfl,rfl,rfl,rfl,rfl,rfl,rfl,rfl⟩|⟨rfl,rfl,rfl,rfl,rfl,rfl,rfl,rfl,rfl⟩|⟨rfl,rfl,rfl,rfl,rfl,rfl,rfl,rfl,rfl⟩|⟨rfl,rfl,rfl,rfl,rfl,rfl,rfl,rfl,rfl,p⟩|⟨rfl,rfl,rfl,rfl,rfl,rfl,rfl,rfl,rfl,p⟩|⟨rfl,rfl,rfl,rfl,rfl,rfl,rfl,rfl,rfl⟩|⟨rfl,rfl,rfl,rfl,rfl,rfl,rfl,rfl,rfl,p⟩|⟨rfl,rfl,rfl,rfl,rfl,rfl,rfl,rfl,rfl,p⟩|⟨rfl,rfl,rfl,rfl,rfl,rfl,rfl,rfl,rfl,p⟩|⟨rfl,rfl,rfl,rfl,rfl,rfl,rfl,rfl,rfl,p⟩|⟨rfl,rfl,rfl,rfl,rfl,rfl,rfl,rfl,rfl⟩|⟨rfl,rfl,rfl,rfl,rfl,rfl,rfl,rfl,rfl⟩
 all_goals
  have y:=Ya z;have H:=Ya hd;have C:=Ya x;have B:=Ya g;have G:=Ya hi;have D:=Ya A;clear z hd x g hi A;go_enter func87,ntmps87
  go_wp2_with fail
  refine(Zg8 _ _).mono ?_;rintro e w' ⟨rfl,rfl⟩;go_wp2_with fail
  refine(Zor _ _).mono ?_;rintro e w' ⟨rfl,rfl⟩;rw[H.out,C.out,B.out,G.out]
  iterate 3
   go_wp2_with fail
   first
    | with_reducible refine(Z4f _ _ _).mono ?_
    | (refine(Zk9 n 21 2097152 _ _ _ ?_ ?_ ?_ h0 s (by omega)).mono ?_;iterate 3 (focus (go_simp;done)))
    | (refine(Zk9 n 16 65536 _ _ _ ?_ ?_ ?_ h0 s (by omega)).mono ?_;iterate 3 (focus (go_simp;done)))
    | (refine(Zk9 n 11 2048 _ _ _ ?_ ?_ ?_ h0 s (by omega)).mono ?_;iterate 3 (focus (go_simp;done)))
   rintro e w' ⟨rfl,rfl⟩
  go_wp2_with fail
  go_region
  go_wp2_with fail
  refine(Zrh _ _).mono ?_;rintro e w' ⟨rfl,rfl⟩;rw[D.out];go_wp2_with fail
  try (go_region;go_wp2_with fail)
  refine(Zep _ _ _ _ _ _).mono ?_;rintro e w' ⟨rfl,g⟩;rw[<- y.out];have m:Below w.heap.size w w':=by
   first
    | exact Below.trans ((((((Below.refl _ _).alloc (Nat.le_refl _) _).alloc (by simp) _).alloc (by simp;omega) _).alloc (by simp;omega) _).drew) (g.mono (by simp;omega))
    | exact Below.trans ((((((Below.refl _ _).alloc (Nat.le_refl _) _).alloc (by simp) _).alloc (by simp;omega) _).alloc (by simp;omega) _).drew.drew) (g.mono (by simp;omega))
  obtain⟨i,E⟩:=Zh9 g;have F:=g.size;clear g;simp at F;have t:=Ya m;clear m;have q:w.heap.size<w'.heap.size:=by omega
  have u:w.heap.size+1<w'.heap.size:=by omega
  rcases Zx1 n with⟨h,l,f,c⟩|⟨h,l,f,c⟩|⟨h,f,c⟩
  .rw[h,l]
   have r:(n != n)=false:=by simp
   have k:=Ya f;have j:=Ya c;clear h l f c;go_wp2_with fail
   refine bodyPost_ret (v:=.tuple #[.agg #[.int .i64 (raw n).op,.int .i64 (raw n).d,.int .i64 (raw n).a,.int .i64 (raw n).b,.int .i64 (raw n).imm],.int .i64 0]) (by simp[results,results87,go_sem,i,q,u,y.out]) rfl ⟨?_,?_⟩
   .rw[k.out,j.out]
   .exact Zf6 t.out (Nat.le_succ _) _ _ _ _ _
  .rw[h]
   generalize wordOf (raw n)=wd at *;have r:(wd != n)=true:=by rw[bne_iff_ne];exact l
   have k:=Ya f;have j:=Ya c;clear h l f c;go_wp2_with fail
   refine bodyPost_ret (v:=.tuple #[.agg #[.int .i64 0,.int .i64 0,.int .i64 0,.int .i64 0,.int .i64 0],.int .i64 11]) (by simp[results,results87,go_sem,i,q,u]) rfl ⟨?_,?_⟩
   .rw[k.out,j.out]
   .exact Zf6 t.out (Nat.le_succ _) _ _ _ _ _
  .rw[h]
   have k:=Ya f;have j:=Ya c;clear h f c;go_wp2_with fail
   refine bodyPost_ret (v:=.tuple #[.agg #[.int .i64 0,.int .i64 0,.int .i64 0,.int .i64 0,.int .i64 0],.int .i64 11]) (by simp[results,results87,go_sem,i,q,u]) rfl ⟨?_,?_⟩
   .rw[k.out,j.out]
   .exact Zf6 t.out (Nat.le_succ _) _ _ _ _ _
