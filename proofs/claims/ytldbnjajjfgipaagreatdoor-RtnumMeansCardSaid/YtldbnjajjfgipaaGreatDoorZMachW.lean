/- Parts. -/
import Derived.Test.YtldbnjajjfgipaaGreatDoorZMachP
set_option linter.all false
set_option maxHeartbeats 40000000
open Go.Lib renaming hid->Ya
open Nat renaming le_refl->Yb,le_succ->Ycm
open Go.RowKit.Below renaming refl->Yh,trans->Yba
open List renaming replicate->Yt
open Int renaming le_refl->Y5,toNat_natCast->Yaj
namespace Go.Proofs.YtldbnjajjfgipaaGreatDoor
open S Go.Proofs.Tryz Go.RowKit
set_option maxRecDepth 100000
theorem Z5q (p q:Value)(w:World) :
 Calls prog 195 #[.bool false,p,q] w λ e w'=>e=.returned (.int .i64 0)/\w=w':=by
 go_enter func195,ntmps195
 go_wp2
 go_ret
 exact⟨rfl,rfl⟩
theorem Zml (n at_ k:Int)(d b:Nat)(w:World)(hw:w.cell? ⟨d,0,none⟩=some (.int .u32 n))(hb:w.cell? ⟨b,0,none⟩=some (.int .i64 at_))(hf:w.frozen? ⟨b,0,none⟩=false)
 (h0:0<=n) (h1:n<=4294967295) (f:(at_=21/\k=2097152)\/(at_=16/\k=65536)\/(at_=11/\k=2048)) :
 Calls prog 195 #[.bool true,.pointer (some ⟨d,0,none⟩),.pointer (some ⟨b,0,none⟩)] w
  λ e w'=>e=.returned (.int .i64 (n/k%32))/\w.setCell ⟨b,0,none⟩ (.int .i64 (at_-5))=w':=by
 rcases f with⟨rfl,rfl⟩|⟨rfl,rfl⟩|⟨rfl,rfl⟩
 .have hm:=Zah 5 (n/2097152) 32 31 rfl rfl (by omega) (by omega) (by omega)
  have a:0<=n/2097152%32:=by omega
  have m1:n/2097152%32<=31:=by omega
  go_enter func195,ntmps195
  go_wp2
  go_ret
  exact⟨rfl,rfl⟩
 .have hm:=Zah 5 (n/65536) 32 31 rfl rfl (by omega) (by omega) (by omega)
  have a:0<=n/65536%32:=by omega
  have m1:n/65536%32<=31:=by omega
  go_enter func195,ntmps195
  go_wp2
  go_ret
  exact⟨rfl,rfl⟩
 .have hm:=Zah 5 (n/2048) 32 31 rfl rfl (by omega) (by omega) (by omega)
  have a:0<=n/2048%32:=by omega
  have m1:n/2048%32<=31:=by omega
  go_enter func195,ntmps195
  go_wp2
  go_ret
  exact⟨rfl,rfl⟩
theorem Zzv (n:Int):(chk (raw n)=0/\wordOf (raw n)=n/\dec n=raw n/\decE n=0) \/
 (chk (raw n)=0/\wordOf (raw n)≠n/\dec n=⟨0,0,0,0,0⟩/\decE n=11)\/(chk (raw n)=11/\dec n=⟨0,0,0,0,0⟩/\decE n=11):=by
 cases hd:decB n
 .obtain⟨h1,h2⟩:=Z17 hd
  cases hg:good (raw n)
  .exact .inr (.inr ⟨Zvp hg,h1,h2⟩)
  .refine .inr (.inl ⟨Zmd hg,?_,h1,h2⟩)
   rw[Zfo hg];intro a;simp[decB,hg,a] at hd
 .have e:dec n=raw n:=by unfold dec;rw[hd];simp
  obtain⟨h1,h2,h3⟩:=Zyo hd;rw[e] at h1 h2;exact .inl ⟨Zmd h1,by rw[Zfo h1,h2],e,h3⟩
theorem Zv9 (n:Int):bits .and .u32 n 0=0:=by
 have h:(BitVec.ofInt 32 n &&& BitVec.ofInt 32 0)=0:=by simp
 show IntKind.u32.wrap ((BitVec.ofInt 32 n &&& BitVec.ofInt 32 0).toNat:Int)=0
 rw[h];rfl
theorem Zg8 {w w':World}{k:Nat}(h:Below w.heap.size w w')(a:w.heap.size<=k)(d f b e g:Value) :
 Below w.heap.size w (((((w'.setCell ⟨k,0,none⟩ d).setCell ⟨k,1,none⟩ f).setCell ⟨k,2,none⟩ b).setCell ⟨k,3,none⟩ e).setCell ⟨k,4,none⟩ g) :=
 ((((h.setCell (p:=⟨k,0,none⟩) a d).setCell (p:=⟨k,1,none⟩) a f).setCell (p:=⟨k,2,none⟩) a b).setCell (p:=⟨k,3,none⟩) a e).setCell (p:=⟨k,4,none⟩) a g
def Z5r (n:Int)(w:World)(e:Ending)(w':World):Prop :=
 e=.returned (.tuple #[.agg #[.int .i64 (dec n).op,.int .i64 (dec n).d,.int .i64 (dec n).a,.int .i64 (dec n).b,.int .i64 (dec n).imm],.int .i64 (decE n)])/\Below w.heap.size w w'
def S.b6 (n X0 X1 X2 I bits:Int)(d a b sg:Bool)(A B C:Int):Prop :=
 (bits=0/\d=false/\a=false/\b=false/\sg=false/\X0=0/\X1=0/\X2=0/\I=0)\/(bits=0/\d=true/\a=true/\b=true/\sg=false/\X0=A/\X1=B/\X2=C/\I=0)\/(bits=16/\d=true/\a=true/\b=false/\sg=false/\X0=A/\X1=B/\X2=0/\I=n%65536)\/(bits=16/\d=true/\a=true/\b=false/\sg=true/\X0=A/\X1=B/\X2=0/\I=n%65536/\(n%65536/32768 != 0)=false)\/(bits=16/\d=true/\a=true/\b=false/\sg=true/\X0=A/\X1=B/\X2=0/\I=n%65536-65536/\(n%65536/32768 != 0)=true)\/(bits=16/\d=true/\a=false/\b=false/\sg=false/\X0=A/\X1=0/\X2=0/\I=n%65536)\/(bits=16/\d=false/\a=true/\b=true/\sg=true/\X0=0/\X1=A/\X2=B/\I=n%65536/\(n%65536/32768 != 0)=false)\/(bits=16/\d=false/\a=true/\b=true/\sg=true/\X0=0/\X1=A/\X2=B/\I=n%65536-65536/\(n%65536/32768 != 0)=true)\/(bits=21/\d=true/\a=false/\b=false/\sg=true/\X0=A/\X1=0/\X2=0/\I=n%2097152/\(n%2097152/1048576 != 0)=false)\/(bits=21/\d=true/\a=false/\b=false/\sg=true/\X0=A/\X1=0/\X2=0/\I=n%2097152-2097152/\(n%2097152/1048576 != 0)=true)\/(bits=0/\d=true/\a=false/\b=false/\sg=false/\X0=A/\X1=0/\X2=0/\I=0)\/(bits=0/\d=false/\a=true/\b=false/\sg=false/\X0=0/\X1=A/\X2=0/\I=0)
theorem Zzw (n:Int)(h0:0<=n):∃(g f i I bits:Int)(d a b sg:Bool),raw n=⟨n/67108864,g,f,i,I⟩/\hasD (form (n/67108864))=d/\hasA (form (n/67108864))=a/\hasB (form (n/67108864))=b/\bitsOf (form (n/67108864))=bits/\decide (least (n/67108864)<0)=sg/\b6 n g f i I bits d a b sg (n/2097152%32) (n/65536%32) (n/2048%32):=by
 refine⟨rawD n,rawA n,rawB n,rawI n,_,_,_,_,_,rfl,rfl,rfl,rfl,rfl,rfl,?_⟩;have r:(n%65536/32768 != 0)=decide (32768<=n%65536):=by
  by_cases c:32768<=n%65536
  .rw[decide_eq_true c,bne_iff_ne];omega
  .rw[decide_eq_false c];simp;omega
 have o:(n%2097152/1048576 != 0)=decide (1048576<=n%2097152):=by
  by_cases c:1048576<=n%2097152
  .rw[decide_eq_true c,bne_iff_ne];omega
  .rw[decide_eq_false c];simp;omega
 have e:=Zd6 (n/67108864);have el:form (n/67108864)=5\/form (n/67108864)=4->least (n/67108864)<0:=by unfold least;grind
 have k:least (n/67108864)<0->form (n/67108864)=5\/form (n/67108864)=4\/form (n/67108864)=2:=by unfold least;grind
 unfold b6 rawD rawA rawB rawI opOf hasD hasA hasB bitsOf;rw[r,o];by_cases q:32768<=n%65536 <;> by_cases l:1048576<=n%2097152 <;> by_cases j:least (n/67108864)<0 <;> rcases e with⟨h,_⟩|⟨h,_⟩|⟨h,_⟩|⟨h,_⟩|⟨h,_⟩|⟨h,_⟩|⟨h,_⟩|⟨h,_⟩ <;> first
  | (exfalso;rw[h] at el k;revert el k j;simp;done)
  | simp[h,j,q,l]
theorem Zte (n:Int)(w:World)(h0:0<=n)(h1:n<=4294967295) :
 Calls prog 125 #[.int .u32 n] w
  λ e w'=>e=.returned (.tuple #[.agg #[.int .i64 (dec n).op,.int .i64 (dec n).d,.int .i64 (dec n).a,.int .i64 (dec n).b,.int .i64 (dec n).imm],.int .i64 (decE n)])/\Below w.heap.size w w':=by
 show Calls prog 125 #[.int .u32 n] w (Z5r n w)
 have H:=Y_f
 have k0:=Zv9 n;have k1:=Zah 16 n 65536 65535 rfl rfl (by omega) h0 (by omega);have k2:=Zah 21 n 2097152 2097151 rfl rfl (by omega) h0 (by omega);have m0:0<=n%65536:=by omega
 have m1:n%65536<=65535:=by omega
 have m2:0<=n%2097152:=by omega
 have m3:n%2097152<=2097151:=by omega
 obtain⟨X0,X1,X2,I,bits,d,a,b,sg,D,C,z,f,hi,E,r⟩:=Zzw n h0;rcases r with⟨rfl,rfl,rfl,rfl,rfl,rfl,rfl,rfl,rfl⟩|⟨rfl,rfl,rfl,rfl,rfl,rfl,rfl,rfl,rfl⟩|⟨rfl,rfl,rfl,rfl,rfl,rfl,rfl,rfl,rfl⟩|⟨rfl,rfl,rfl,rfl,rfl,rfl,rfl,rfl,rfl,l⟩|⟨rfl,rfl,rfl,rfl,rfl,rfl,rfl,rfl,rfl,l⟩|⟨rfl,rfl,rfl,rfl,rfl,rfl,rfl,rfl,rfl⟩|⟨rfl,rfl,rfl,rfl,rfl,rfl,rfl,rfl,rfl,l⟩|⟨rfl,rfl,rfl,rfl,rfl,rfl,rfl,rfl,rfl,l⟩|⟨rfl,rfl,rfl,rfl,rfl,rfl,rfl,rfl,rfl,l⟩|⟨rfl,rfl,rfl,rfl,rfl,rfl,rfl,rfl,rfl,l⟩|⟨rfl,rfl,rfl,rfl,rfl,rfl,rfl,rfl,rfl⟩|⟨rfl,rfl,rfl,rfl,rfl,rfl,rfl,rfl,rfl⟩
 all_goals
  have y:=Ya D;have N:=Ya C;have L:=Ya z;have J:=Ya f;have M:=Ya hi;have F:=Ya E;clear D C z f hi E;go_enter func125,ntmps125
  go_wp2_with fail
  refine(Zh7 _ _).mono ?_;rintro e w' ⟨rfl,rfl⟩;go_wp2_with fail
  refine(Zqb _ _).mono ?_;rintro e w' ⟨rfl,rfl⟩;rw[N.out,L.out,J.out,M.out]
  iterate 3
   go_wp2_with fail
   first
    | with_reducible refine(Z5q _ _ _).mono ?_
    | (refine(Zml n 21 2097152 _ _ _ ?_ ?_ ?_ h0 h1 (by omega)).mono ?_;iterate 3 (focus (go_simp;done)))
    | (refine(Zml n 16 65536 _ _ _ ?_ ?_ ?_ h0 h1 (by omega)).mono ?_;iterate 3 (focus (go_simp;done)))
    | (refine(Zml n 11 2048 _ _ _ ?_ ?_ ?_ h0 h1 (by omega)).mono ?_;iterate 3 (focus (go_simp;done)))
   rintro e w' ⟨rfl,rfl⟩
  go_wp2_with fail
  go_region
  go_wp2_with fail
  refine(Zs5 _ _).mono ?_;rintro e w' ⟨rfl,rfl⟩;rw[F.out];go_wp2_with fail
  try (go_region;go_wp2_with fail)
  refine(Zff _ _ _ _ _ _).mono ?_;rintro e w' ⟨rfl,f⟩;rw[<- y.out];have q:Below w.heap.size w w':=by
   first
    | exact Yba ((((((Yh _ _).alloc (Yb _) _).alloc (by simp) _).alloc (by simp;omega) _).alloc (by simp;omega) _).drew) (f.mono (by simp;omega))
    | exact Yba ((((((Yh _ _).alloc (Yb _) _).alloc (by simp) _).alloc (by simp;omega) _).alloc (by simp;omega) _).drew.drew) (f.mono (by simp;omega))
  obtain⟨j,G⟩:=Zih f;have K:=f.size;clear f;simp at K;have x:=Ya q;clear q;have t:w.heap.size<w'.heap.size:=by omega
  have g1:w.heap.size+1<w'.heap.size:=by omega
  rcases Zzv n with⟨h,k,i,g⟩|⟨h,k,i,g⟩|⟨h,i,g⟩
  .rw[h,k]
   have u:(n != n)=false:=by simp
   have o:=Ya i;have s:=Ya g;clear h k i g;go_wp2_with fail
   refine bodyPost_ret (v:=.tuple #[.agg #[.int .i64 (raw n).op,.int .i64 (raw n).d,.int .i64 (raw n).a,.int .i64 (raw n).b,.int .i64 (raw n).imm],.int .i64 0]) (by simp[results,results125,go_sem,j,t,g1,y.out]) rfl ⟨?_,?_⟩
   .rw[o.out,s.out]
   .exact Zg8 x.out (Ycm _) _ _ _ _ _
  .rw[h]
   generalize wordOf (raw n)=wd at *;have u:(wd != n)=true:=by rw[bne_iff_ne];exact k
   have o:=Ya i;have s:=Ya g;clear h k i g;go_wp2_with fail
   refine bodyPost_ret (v:=.tuple #[.agg #[.int .i64 0,.int .i64 0,.int .i64 0,.int .i64 0,.int .i64 0],.int .i64 11]) (by simp[results,results125,go_sem,j,t,g1]) rfl ⟨?_,?_⟩
   .rw[o.out,s.out]
   .exact Zg8 x.out (Ycm _) _ _ _ _ _
  .rw[h]
   have o:=Ya i;have s:=Ya g;clear h i g;go_wp2_with fail
   refine bodyPost_ret (v:=.tuple #[.agg #[.int .i64 0,.int .i64 0,.int .i64 0,.int .i64 0,.int .i64 0],.int .i64 11]) (by simp[results,results125,go_sem,j,t,g1]) rfl ⟨?_,?_⟩
   .rw[o.out,s.out]
   .exact Zg8 x.out (Ycm _) _ _ _ _ _
section
theorem Z5s {n:Int}(h:decE n=0):1<=(dec n).op/\(dec n).op<=36/\0<=(dec n).d/\(dec n).d<=31/\0<=(dec n).a/\(dec n).a<=31/\0<=(dec n).b/\(dec n).b<=31:=by
 have f:decB n=true:=by
  unfold decE at h
  split at h
  .assumption
  .omega
 have hg:good (raw n)=true:=by
  unfold decB at f;simp only[Bool.and_eq_true] at f;exact f.1
 have e:dec n=raw n:=by unfold dec;rw[if_pos f]
 rw[e];obtain⟨h1,h2,h3,i,k,g,j,l,_⟩:=Zfs (op:=(raw n).op) (d:=(raw n).d) (a:=(raw n).a) (b:=(raw n).b) (imm:=(raw n).imm) hg;exact⟨h1,h2,h3,i,k,g,j,l⟩
theorem Zh9 (m:Mach)(op d a b imm:Int):m.act ⟨op,d,a,b,imm⟩=(m,0,4)\/m.act ⟨op,d,a,b,imm⟩=(m,0,2)\/(∃v,m.act ⟨op,d,a,b,imm⟩=(m.put d v,u32m (m.place+1),0))\/(∃l,m.act ⟨op,d,a,b,imm⟩=({ m with mem:=l },u32m (m.place+1),0)) \/
 (∃x,m.act ⟨op,d,a,b,imm⟩=(m,u32m x,0))\/(∃v x,m.act ⟨op,d,a,b,imm⟩=(m.put d v,u32m x,0))\/(∃v r,m.act ⟨op,d,a,b,imm⟩=(({ m with input:=r }:Mach).put d v,u32m (m.place+1),0)) \/
 (∃o,m.act ⟨op,d,a,b,imm⟩=({ m with out:=o },u32m (m.place+1),0)/\o.length=m.out.length+1)\/(∃v,m.act ⟨op,d,a,b,imm⟩=({ m with state:=1,code:=v },m.place,0)):=by
 unfold Mach.act;simp only;by_cases h1:op<=14
 .rw[if_pos h1]
  by_cases h2:m.rd b=0/\(op=5\/op=6)
  .rw[if_pos h2];exact .inl rfl
  .rw[if_neg h2];exact .inr (.inr (.inl ⟨_,rfl⟩))
 rw[if_neg h1];by_cases h2:op<=22
 .rw[if_pos h2];exact .inr (.inr (.inl ⟨_,rfl⟩))
 rw[if_neg h2];by_cases h3:op=23
 .rw[if_pos h3];exact .inr (.inr (.inl ⟨_,rfl⟩))
 rw[if_neg h3];by_cases i:op=24
 .rw[if_pos i]
  by_cases h:u32m (m.rd a+u32m imm)<m.mem.length
  .rw[if_pos h];exact .inr (.inr (.inl ⟨_,rfl⟩))
  .rw[if_neg h];exact .inr (.inl rfl)
 rw[if_neg i];by_cases h:op=25
 .rw[if_pos h]
  by_cases f:u32m (m.rd a+u32m imm)<m.mem.length
  .rw[if_pos f];exact .inr (.inr (.inr (.inl ⟨_,rfl⟩)))
  .rw[if_neg f];exact .inr (.inl rfl)
 rw[if_neg h];by_cases f:op<=31
 .rw[if_pos f]
  by_cases g:goes op (m.rd a) (m.rd b)=true
  .rw[if_pos g];exact .inr (.inr (.inr (.inr (.inl ⟨_,rfl⟩))))
  .rw[if_neg g];exact .inr (.inr (.inr (.inr (.inl ⟨_,rfl⟩))))
 rw[if_neg f];by_cases g:op=32
 .rw[if_pos g];exact .inr (.inr (.inr (.inr (.inr (.inl ⟨_,_,rfl⟩)))))
 rw[if_neg g];by_cases k:op=33
 .rw[if_pos k];exact .inr (.inr (.inr (.inr (.inr (.inl ⟨_,_,rfl⟩)))))
 rw[if_neg k];by_cases j:op=34
 .rw[if_pos j]
  cases hi:m.input with
  | nil=>exact .inr (.inr (.inl ⟨_,rfl⟩))
  | cons x r=>exact .inr (.inr (.inr (.inr (.inr (.inr (.inl ⟨_,_,rfl⟩))))))
 rw[if_neg j];by_cases e:op=35
 .rw[if_pos e];exact .inr (.inr (.inr (.inr (.inr (.inr (.inr (.inl ⟨_,rfl,by simp⟩)))))))
 rw[if_neg e];exact .inr (.inr (.inr (.inr (.inr (.inr (.inr (.inr ⟨_,rfl⟩)))))))
theorem Zwa (m:Mach)(d v:Int):(m.put d v).steps=m.steps:=by unfold Mach.put;split <;> rfl
theorem Z5t {m:Mach}(h:m.Ok){op d a b imm:Int}:0<=(m.act ⟨op,d,a,b,imm⟩).2.1/\(m.act ⟨op,d,a,b,imm⟩).2.1<=4294967295:=by
 rcases Zh9 m op d a b imm with e|e|⟨v,e⟩|⟨l,e⟩|⟨x,e⟩|⟨v,x,e⟩|⟨v,r,e⟩|⟨o,e,eo⟩|⟨v,e⟩
 all_goals rw[e]
 .simp
 .simp
 all_goals first|exact Zat _|exact⟨h.place0,h.place1⟩
theorem Zwb (m:Mach)(op d a b imm:Int):(m.act ⟨op,d,a,b,imm⟩).1.steps=m.steps:=by
 rcases Zh9 m op d a b imm with e|e|⟨v,e⟩|⟨l,e⟩|⟨x,e⟩|⟨v,x,e⟩|⟨v,r,e⟩|⟨o,e,eo⟩|⟨v,e⟩
 all_goals rw[e]
 all_goals first|rfl|exact Zwa _ _ _
theorem Zzx (m:Mach)(op d a b imm:Int)(h:(m.act ⟨op,d,a,b,imm⟩).2.2≠0):(m.act ⟨op,d,a,b,imm⟩).1=m:=by
 rcases Zh9 m op d a b imm with e|e|⟨v,e⟩|⟨l,e⟩|⟨x,e⟩|⟨v,x,e⟩|⟨v,r,e⟩|⟨o,e,eo⟩|⟨v,e⟩
 all_goals rw[e] at h⊢
 all_goals exact absurd rfl h
theorem Z27 (m:Mach)(d v:Int):(m.put d v).out=m.out:=by unfold Mach.put;split <;> rfl
theorem Z28 (m:Mach)(op d a b imm:Int):(m.act ⟨op,d,a,b,imm⟩).1.out.length<=m.out.length+1:=by
 rcases Zh9 m op d a b imm with e|e|⟨v,e⟩|⟨l,e⟩|⟨x,e⟩|⟨v,x,e⟩|⟨v,r,e⟩|⟨o,e,eo⟩|⟨v,e⟩
 all_goals rw[e]
 all_goals simp only[Z27]
 all_goals omega
theorem Zwc (m:Mach):m.step.out.length<=m.out.length+1/\m.steps<=m.step.steps/\m.step.steps<=m.steps+1:=by
 unfold Mach.step;by_cases h1:m.state≠0
 .rw[if_pos h1];omega
 rw[if_neg h1];by_cases h2:(m.mem.length:Int)<=m.place
 .rw[if_pos h2];simp only[Mach.fell];omega
 rw[if_neg h2];by_cases h3:decE (m.mem.getD m.place.toNat 0)≠0
 .rw[if_pos h3];simp only[Mach.fell];omega
 rw[if_neg h3];by_cases e:(m.act (dec (m.mem.getD m.place.toNat 0))).2.2≠0
 .rw[if_pos e];simp only[Mach.fell];omega
 rw[if_neg e];have:=Z28 m (dec (m.mem.getD m.place.toNat 0)).op (dec (m.mem.getD m.place.toNat 0)).d (dec (m.mem.getD m.place.toNat 0)).a (dec (m.mem.getD m.place.toNat 0)).b (dec (m.mem.getD m.place.toNat 0)).imm;exact⟨this,by show m.steps<=m.steps+1;omega,Y5 _⟩
theorem Zk5 (m:Mach):∀k:Nat,(m.steps_ k).out.length<=m.out.length+k/\m.steps<=(m.steps_ k).steps/\(m.steps_ k).steps<=m.steps+k
 | 0=>by simp[Mach.steps_]
 | k+1=>by
  obtain⟨h1,h2,h3⟩:=Zk5 m k;obtain⟨g1,g2,g3⟩:=Zwc (m.steps_ k)
  show(m.steps_ k).step.out.length<=_/\_<=(m.steps_ k).step.steps/\(m.steps_ k).step.steps<=_
  omega
theorem Zwd {m:Mach}(h:m.state≠0):m.step=m:=by unfold Mach.step;rw[if_pos h]
theorem Zk6 {m:Mach}{k:Nat}(h:(m.steps_ k).state≠0):∀j:Nat,m.steps_ (k+j)=m.steps_ k
 | 0=>rfl
 | j+1=>by
  have:=Zk6 h j
  show(m.steps_ (k+j)).step=_
  rw[this,Zwd h]
theorem Z8u {w:World}{b:Nat}{cs:Array Value}{t:TypeId}(h:w.heap[b]?=some (.cells cs t (0,0)))(d:cs.size=5)(i j e f g:Value){w':World}
 (l:w'=(((((w.setCell ⟨b,0,none⟩ i).setCell ⟨b,1,none⟩ j).setCell ⟨b,2,none⟩ e).setCell ⟨b,3,none⟩ f).setCell ⟨b,4,none⟩ g)) :
 b<w'.heap.size/\(w'.cell? ⟨b,0,none⟩=some i/\w'.cell? ⟨b,1,none⟩=some j/\w'.cell? ⟨b,2,none⟩=some e/\w'.cell? ⟨b,3,none⟩=some f/\w'.cell? ⟨b,4,none⟩=some g)/\Below b w w':=by
 subst l;have h1:=heap_setCell_same w b 0 cs t i h;have h2:=heap_setCell_same _ b 1 _ t j h1;have h3:=heap_setCell_same _ b 2 _ t e h2;have k:=heap_setCell_same _ b 3 _ t f h3;have a:=heap_setCell_same _ b 4 _ t g k;refine⟨(Array.getElem?_eq_some_iff.1 a).1,⟨?_,?_,?_,?_,?_⟩,?_⟩
 .rw[Zad a];simp[d]
 .rw[Zad a];simp[d]
 .rw[Zad a];simp[d]
 .rw[Zad a];simp[d]
 .rw[Zad a];simp[d]
 .exact((((((Yh b w).setCell (p:=⟨b,0,none⟩) (Yb _) _).setCell (p:=⟨b,1,none⟩) (Yb _) _).setCell (p:=⟨b,2,none⟩) (Yb _) _).setCell (p:=⟨b,3,none⟩) (Yb _) _).setCell (p:=⟨b,4,none⟩) (Yb _) _)
theorem Z5u (w:World)(t:TypeId)(d f b e g:Value){w':World}(i:w'=w.alloc (.cells #[d,f,b,e,g] t)) :
 w.heap.size<w'.heap.size/\(w'.cell? ⟨w.heap.size,0,none⟩=some d/\w'.cell? ⟨w.heap.size,1,none⟩=some f/\w'.cell? ⟨w.heap.size,2,none⟩=some b/\w'.cell? ⟨w.heap.size,3,none⟩=some e/\w'.cell? ⟨w.heap.size,4,none⟩=some g)/\Below w.heap.size w w':=by
 subst i;obtain⟨a,h,x3⟩:=Zg7 w #[d,f,b,e,g] t;exact⟨by omega,⟨by rw[Zad a];rfl,by rw[Zad a];rfl,by rw[Zad a];rfl,by rw[Zad a];rfl,by rw[Zad a];rfl⟩,h⟩
theorem Ztf {w1 a w':World}{t:TypeId}{e g d f h:Value}(i:Below w1.drew.heap.size w1.drew a)(j:w'=a.alloc (.cells #[e,g,d,f,h] t)) :
 a.heap.size<w'.heap.size/\(w'.cell? ⟨a.heap.size,0,none⟩=some e/\w'.cell? ⟨a.heap.size,1,none⟩=some g/\w'.cell? ⟨a.heap.size,2,none⟩=some d/\w'.cell? ⟨a.heap.size,3,none⟩=some f/\w'.cell? ⟨a.heap.size,4,none⟩=some h)/\Below w1.heap.size w1 w':=by
 obtain⟨h1,h2,h3⟩:=Z5u a t e g d f h j;have b:Below w1.heap.size w1.drew a:=i;exact⟨h1,h2,(((Yh _ _).drew).trans b).trans (h3.mono b.size)⟩
theorem Zql {w1 a w':World}{t:TypeId}{z e g d f h:Value}(b:Below (w1.alloc (.cells #[z,z,z,z,z] t)).drew.heap.size (w1.alloc (.cells #[z,z,z,z,z] t)).drew a)
 (j:w'=(((((a.setCell ⟨w1.heap.size,0,none⟩ e).setCell ⟨w1.heap.size,1,none⟩ g).setCell ⟨w1.heap.size,2,none⟩ d).setCell ⟨w1.heap.size,3,none⟩ f).setCell ⟨w1.heap.size,4,none⟩ h)) :
 w1.heap.size<w'.heap.size/\(w'.cell? ⟨w1.heap.size,0,none⟩=some e/\w'.cell? ⟨w1.heap.size,1,none⟩=some g/\w'.cell? ⟨w1.heap.size,2,none⟩=some d/\w'.cell? ⟨w1.heap.size,3,none⟩=some f/\w'.cell? ⟨w1.heap.size,4,none⟩=some h)/\Below w1.heap.size w1 w':=by
 have l:(w1.alloc (.cells #[z,z,z,z,z] t)).heap.size=w1.heap.size+1:=by simp
 have i:Below (w1.heap.size+1) (w1.alloc (.cells #[z,z,z,z,z] t)) a:=by
  rw[<- l];exact((Yh _ _).drew).trans b
 have k:a.heap[w1.heap.size]?=some (.cells #[z,z,z,z,z] t (0,0)):=(i.block w1.heap.size (Nat.lt_succ_self _)).trans (heap_alloc_new w1 (.cells #[z,z,z,z,z] t));obtain⟨h1,h2,h3⟩:=Z8u k rfl e g d f h j;exact⟨h1,h2,(((Yh w1.heap.size w1).alloc (Yb w1.heap.size) _).trans (i.mono (Ycm _))).trans h3⟩
section
variable {w w':World}{B p:Nat}{vm vo:Value}{A:Option Addr}{c:Nat}{inp:List Int}{rd:Nat}{m:Mach}
def Zzy (w:World)(B p:Nat)(vm vo:Value)(A:Option Addr)(c:Nat)(inp:List Int)(m':Mach)(e:Ending)(w':World):Prop :=
 e=.returned (.int .i64 m'.state)/\∃vo' rd',MAt w' B p vm vo' A c inp rd' m'/\Only (Za0 p vm vo) w w'/\(vo'.ownBlock=vo.ownBlock\/∃k,w.heap.size<=k/\vo'.ownBlock=some k)
theorem Zwe (h:MAt w B p vm vo A c inp rd m)(a0:m.out.length<=1000000000)(c9:0<=m.steps/\m.steps<=1000000000) :
 Calls prog 58 #[.pointer (some ⟨p,0,none⟩)] w (Zzy w B p vm vo A c inp m.step):=by
 have b6:=h.lt;have b0:=h.ok.place0;have b4:=h.ok.place1;have d4:=h.low0;obtain⟨g,cap,y,hg,G,c5⟩:=h.memv;obtain⟨D,z,_,_,_,a8,_,_,_⟩:=h.cells;by_cases H:m.state=0
 rotate_left
 .have d1:(m.state != 0)=true:=by simpa using H
  have i:=Ya (show m.step=m by unfold Mach.step;rw[if_pos H]);clear H G;go_enter func58,ntmps58
  go_wp2_with fail
  refine(Zal h).mono ?_;rintro e W ⟨rfl,rfl⟩;go_wp2_with fail
  go_ret
  rw[i.out];exact⟨rfl,vo,rd,h,Only.refl _ _,.inl rfl⟩
 .have d1:(m.state != 0)=false:=by simp[H]
  have Hs:=Ya H;have a7:IntKind.u64.wrap m.place=m.place:=by simp[IntKind.wrap,IntKind.signed,IntKind.bits];omega
  have e0:IntKind.u64.wrap (m.mem.length:Int)=m.mem.length:=by simp[IntKind.wrap,IntKind.signed,IntKind.bits];omega
  have c7:=Ya y;have J:=Ya G;rw[y] at D;clear H y G;by_cases C:(m.mem.length:Int)<=m.place
  .have i:=Ya (show m.step=m.fell 3 by unfold Mach.step;rw[if_neg (by simp[Hs.out]),if_pos C])
   go_enter func58,ntmps58
   go_wp2_with fail
   refine(Zal h).mono ?_;rintro e W ⟨rfl,rfl⟩;go_wp2_with fail
   go_quiet (fail)
   go_wp2_with fail
   refine(Zjg 3 (h.drewN _)).mono ?_;rintro e w3 ⟨rfl,f,n⟩;go_wp2_with fail
   go_ret
   rw[i.out];exact⟨rfl,vo,rd,f,(Only.drewN _ _).trans (Zd5 n) (λ _ _ h=>h),.inl rfl⟩
  .obtain⟨t,ht⟩:∃t:Nat,m.place=t:=⟨m.place.toNat,by omega⟩
   have U:t<m.mem.length:=by omega
   have a4:=Ya (show decide (m.mem.length<=t)=false by simpa using U);have l:=J.out t U;have a3:=h.ok.memw t;have Z:Hid (m.mem.getD m.place.toNat 0=m.mem.getD t 0/\¬(m.mem.length:Int)<=m.place):=Ya ⟨by rw[ht,Yaj],C⟩;have Ht:=Ya ht;rw[ht] at z a7 C;clear ht b0 b4 J;generalize m.mem.getD t 0=mw at *;obtain⟨a9,b5⟩:=a3;go_enter func58,ntmps58
   go_wp2_with fail
   refine(Zal h).mono ?_;rintro e W ⟨rfl,rfl⟩;go_wp2_with fail
   go_quiet (fail)
   go_upto_region 7 with fail
   have a6:=h.drewN nq;have a5:=Only.drewN (F:=Za0 p vm vo) w nq;have c4:(w.drewN nq).cell? ⟨p,32,none⟩=some (.slice (some ⟨g,0,none⟩) m.mem.length cap):=D;have c1:(w.drewN nq).cell? ⟨p,33,none⟩=some (.int .u32 t):=z;have c2:(w.drewN nq).cell? ⟨g,t,none⟩=some (.int .u32 mw):=l;have c3:p<(w.drewN nq).heap.size:=b6;have d3:g<(w.drewN nq).heap.size:=hg;have d5:w.heap.size<=(w.drewN nq).heap.size:=Yb _;generalize w.drewN nq=w1 at *;clear D z l a8;rw[a4.out]
   go_cut [3,4] from 36 to 49 (λ v3 v4 wc=>∃nb,v3=.pointer (some ⟨nb,0,none⟩)/\v4=.int .i64 (decE mw)/\nb<wc.heap.size/\(wc.cell? ⟨nb,0,none⟩=some (.int .i64 (dec mw).op)/\wc.cell? ⟨nb,1,none⟩=some (.int .i64 (dec mw).d)/\wc.cell? ⟨nb,2,none⟩=some (.int .i64 (dec mw).a)/\wc.cell? ⟨nb,3,none⟩=some (.int .i64 (dec mw).b)/\wc.cell? ⟨nb,4,none⟩=some (.int .i64 (dec mw).imm))/\Below w1.heap.size w1 wc)
   case first =>
    go_region_with (go_at_call 125;refine(Zte _ _ a9 b5).mono ?_;rintro e W ⟨rfl,v⟩;obtain⟨c8,d7⟩:=Zih v;have d8:=v.size)
    all_goals
     simp only[List.getElem_toArray,List.getElem_cons_succ,List.getElem_cons_zero,Act.put,List.setIfInBounds_toArray,List.set_cons_succ,List.set_cons_zero];go_wp2_with fail
     go_meet
     first
      | (refine⟨W.heap.size,by kernel_rfl,by kernel_rfl,?_⟩;with_reducible exact Ztf v rfl)
      | (refine⟨w1.heap.size,by kernel_rfl,by kernel_rfl,?_⟩;with_reducible exact Zql v rfl)
      | skip
   case rest =>
    obtain⟨nb,rfl,rfl,e3,⟨q0,q1,q2,q3,q4⟩,K⟩:=hcut;have N:=a6.below K;have E:=a5.trans (Only.of_below (F:=Za0 p vm vo) K) (λ _ _ h=>h);by_cases j:decE mw=0
    .obtain⟨o1,o2,d1,d2,a1,a2,b1,b2⟩:=Z5s j
     have s:Hid (m.step=if (m.act (dec mw)).2.2≠0 then m.fell (m.act (dec mw)).2.2 else { (m.act (dec mw)).1 with place:=(m.act (dec mw)).2.1,steps:=m.steps+1 }):=Ya (by
      unfold Mach.step;rw[if_neg (by simp[Hs.out]),if_neg (by have:=Z.out.2;omega),Z.out.1,if_neg (by simp[j])])
     generalize hdw:dec mw=dw at *;obtain⟨op,M,O,Q,imm⟩:=dw;simp only at o1 o2 d1 d2 a1 a2 b1 b2 q0 q1 q2 q3 q4;rw[j];have R:=Z26 op M O Q imm N ⟨o1,o2⟩ ⟨d1,by omega⟩ ⟨a1,by omega⟩ ⟨b1,by omega⟩ a0;have I:=Z5t (op:=op) (d:=M) (a:=O) (b:=Q) (imm:=imm) h.ok;have T:=Zwb m op M O Q imm;have l:=Zzx m op M O Q imm;generalize m.act ⟨op,M,O,Q,imm⟩=r at *;obtain⟨m2,tt,Y⟩:=r;simp only at I T l s;have L:=Ya R;clear R j hdw;go_wp2_with fail
     refine L.out.mono ?_;rintro e w3 ⟨rfl,u,V,f,n,b3⟩;have x:=E.trans n (λ _ _ h=>h);have o:u.ownBlock=vo.ownBlock\/∃k,w.heap.size<=k/\u.ownBlock=some k:=by
      rcases b3 with e|⟨k,hk,e⟩
      .exact .inl e
      .exact .inr ⟨k,by have:=E.size;omega,e⟩
     have d0:∀k,k<w.heap.size->u.ownBlock=some k->vo.ownBlock=some k:=by
      intro k hk e;rcases o with e2|⟨k2,e1,e2⟩
      .rw[<- e2];exact e
      .rw[e2] at e;cases e;omega
     clear L;simp only;by_cases q:Y=0
     .subst q
      have i:=Ya (show m.step={ m2 with place:=tt,steps:=m.steps+1 } by rw[s.out,if_neg (by simp)]);have X:=f.went I;have f33:=f.fz 33;obtain⟨_,d6,_,_,_,_,_,_,_⟩:=f.cells;have f40:=X.fz 40;obtain⟨_,_,_,_,_,d9,_,_,b7⟩:=X.cells;have c0:=f.lt;have hS:=X.stepped (m.steps+1);obtain⟨_,_,_,_,_,c6,_,_,_⟩:=hS.cells;simp only[T] at b7;have HS:=Ya hS;clear hS X;go_wp2_with fail
      go_ret
      rw[i.out];exact⟨rfl,u,V,HS.out,x.trans ((Only.setCell (F:=Za0 p vm vo) _ (.inl rfl) _).trans (Only.setCell (F:=Za0 p vm vo) _ (.inl rfl) _) (λ _ _ h=>h)) (λ _ _ h=>h),o⟩
     .have dT:(Y != 0)=true:=by simpa using q
      have i:=Ya (show m.step=m.fell Y by rw[s.out,if_pos q]);have b8:m2=m:=l q;clear q;go_wp2_with fail
      refine(Zjg Y f).mono ?_;rintro e w4 ⟨rfl,P,b9⟩;go_wp2_with fail
      go_ret
      rw[i.out];rw[b8] at P;exact⟨rfl,u,V,P,x.trans (Zd5 b9) (λ _ _ h=>h),o⟩
    .have dE:=Zmk j
     have i:=Ya (show m.step=m.fell 1 by
      unfold Mach.step;rw[if_neg (by simp[Hs.out]),if_neg (by have:=Z.out.2;omega),Z.out.1,if_pos j])
     clear j;go_wp2_with fail
     refine(Zjg 1 N).mono ?_;rintro e w3 ⟨rfl,f,n⟩;go_wp2_with fail
     go_ret
     rw[i.out];exact⟨rfl,vo,rd,f,E.trans (Zd5 n) (λ _ _ h=>h),.inl rfl⟩
end
end
section
section
variable {w w':World}{B p:Nat}{vm vo:Value}{A:Option Addr}{c:Nat}{inp:List Int}{rd:Nat}{m:Mach}
namespace S.Mach
def regV (m:Mach)(i:Int):Int:=if 0<=i/\i<32 then m.reg.getD i.toNat 0 else 0
def memV (m:Mach)(i:Int):Int:=if 0<=i/\i<m.mem.length then m.mem.getD i.toNat 0 else 0
def memB (m:Mach)(i:Int):Bool:=decide (0<=i/\i<m.mem.length)
end S.Mach
theorem Ztg (h:MAt w B p vm vo A c inp rd m):Calls prog 24 #[.pointer (some ⟨p,0,none⟩)] w λ e w'=>e=.returned (.int .u32 m.place)/\w=w':=by
 obtain⟨_,cc,_,_,_,_,_,_,_⟩:=h.cells;have a:=h.lt;go_enter func24,ntmps24
 go_wp2_with fail
 refine(Zal h).mono ?_;rintro e w2 ⟨rfl,rfl⟩;go_wp2_with fail
 go_ret
 exact⟨rfl,rfl⟩
theorem Zwf (h:MAt w B p vm vo A c inp rd m):Calls prog 25 #[.pointer (some ⟨p,0,none⟩)] w λ e w'=>e=.returned (.int .u32 m.code)/\w=w':=by
 obtain⟨_,_,_,_,_,_,cc,_,_⟩:=h.cells;have a:=h.lt;go_enter func25,ntmps25
 go_wp2_with fail
 refine(Zal h).mono ?_;rintro e w2 ⟨rfl,rfl⟩;go_wp2_with fail
 go_ret
 exact⟨rfl,rfl⟩
theorem Zzz (i:Int)(h:MAt w B p vm vo A c inp rd m):Calls prog 9 #[.pointer (some ⟨p,0,none⟩),.int .i64 i] w λ e w'=>e=.returned (.int .u32 (m.regV i))/\w=w':=by
 have d:=h.lt;by_cases h0:i<0
 .have a:=Ya (show m.regV i=0 by unfold Mach.regV;rw[if_neg (by omega)])
  go_enter func9,ntmps9
  go_wp2_with fail
  refine(Zal h).mono ?_;rintro e b ⟨rfl,rfl⟩;go_wp2_with fail
  go_ret
  exact⟨by rw[a.out];rfl,rfl⟩
 .by_cases h1:32<=i
  .have a:=Ya (show m.regV i=0 by unfold Mach.regV;rw[if_neg (by omega)])
   go_enter func9,ntmps9
   go_wp2_with fail
   refine(Zal h).mono ?_;rintro e b ⟨rfl,rfl⟩;go_wp2_with fail
   go_ret
   exact⟨by rw[a.out];rfl,rfl⟩
  .obtain⟨k,rfl⟩:∃k:Nat,i=k:=⟨i.toNat,by omega⟩
   have f:k<32:=by omega
   have hr:=h.reg f;have a:=Ya (show m.regV k=m.reg.getD k 0 by unfold Mach.regV;rw[if_pos (by omega)];rfl);generalize m.reg.getD k 0=rv at *;go_enter func9,ntmps9
   go_wp2_with fail
   refine(Zal h).mono ?_;rintro e b ⟨rfl,rfl⟩;go_wp2_with fail
   go_ret
   exact⟨by rw[a.out];rfl,rfl⟩
theorem Zz0 (i:Int)(h:MAt w B p vm vo A c inp rd m):Calls prog 30 #[.pointer (some ⟨p,0,none⟩),.int .i64 i] w λ e w'=>e=.returned (.tuple #[.int .u32 (m.memV i),.bool (m.memB i)])/\∃n,w'=w.drewN n:=by
 have t:=h.lt;have r:=h.low0;obtain⟨g,cap,a,hg,b,j⟩:=h.memv;obtain⟨l,_⟩:=h.cells;rw[a] at l;have o:=Ya b;clear a b j;by_cases h0:i<0
 .have d:=Ya (show m.memV i=0 by unfold Mach.memV;rw[if_neg (by omega)])
  have f:=Ya (show m.memB i=false by unfold Mach.memB;rw[decide_eq_false_iff_not];omega);go_enter func30,ntmps30
  go_wp2_with fail
  refine(Zal h).mono ?_;rintro e q ⟨rfl,rfl⟩;go_wp2_with fail
  go_ret2
  exact⟨by rw[d.out,f.out];rfl,0,rfl⟩
 .by_cases h1:(m.mem.length:Int)<=i
  .have d:=Ya (show m.memV i=0 by unfold Mach.memV;rw[if_neg (by omega)])
   have f:=Ya (show m.memB i=false by unfold Mach.memB;rw[decide_eq_false_iff_not];omega);go_enter func30,ntmps30
   go_wp2_with fail
   refine(Zal h).mono ?_;rintro e q ⟨rfl,rfl⟩;go_wp2_with fail
   go_ret2
   exact⟨by rw[d.out,f.out];rfl,0,rfl⟩
  .obtain⟨k,rfl⟩:∃k:Nat,i=k:=⟨i.toNat,by omega⟩
   have s:k<m.mem.length:=by omega
   have hr:=o.out k s;have d:=Ya (show m.memV k=m.mem.getD k 0 by unfold Mach.memV;rw[if_pos (by omega)];rfl);have f:=Ya (show m.memB k=true by unfold Mach.memB;rw[decide_eq_true_eq];omega);generalize m.mem.getD k 0=rv at *;go_enter func30,ntmps30
   go_wp2_with fail
   refine(Zal h).mono ?_;rintro e q ⟨rfl,rfl⟩;go_wp2_with fail
   go_ret2
   exact⟨by rw[d.out,f.out];rfl,0,rfl⟩
theorem Zz1:(prog.info? 5).map (λ i=>(i.zero,i.size,i.bytes))=some (some (.int .u8 0),1,1):=by kernel_rfl
theorem Zwg:(prog.info? 31).map (λ i=>(i.zero,i.size,i.bytes))=some (some (.int .u32 0),1,4):=by kernel_rfl
theorem Zjh (A:Option Addr)(c:Nat)(L:List Int)(w:World)(l:Reads w w.heap.size A (L.map (Value.int .u8)))(hl:L.length<=1000000000) :
 Calls prog 44 #[.slice A L.length c] w λ e w'=>∃o k,e=.returned (.slice o L.length k)/\w'.ownsRow w.heap.size 5 1 (.slice o L.length k) L.length (L.map (Value.int .u8))/\Below w.heap.size w w':=by
 have hn:=λ(w:World) (A:Option Addr) (n c n1 c1:Nat)=>Lib.run_eql_slice_nil (P:=prog) w 46 5 A n c n1 c1 underlying46
 cases A with
 | none =>
  go_enter func44,ntmps44
  have f:L=[]:=by
   cases L with
   | nil=>rfl
   | cons x r =>
    obtain⟨b,off,e,_⟩:=l (by simp)
    cases e
  subst f;go_wp2_with fail
  go_ret
  exact⟨_,_,rfl,World.ownsRow_nil _ _ _ _,Yh _ _⟩
 | some a =>
  have g:=l.below ((Yh w.heap.size w).alloc (Yb _) (.cells #[] 5));go_enter func44,ntmps44
  go_wp2_with (at_builtin;refine Zac rfl (.tmp 5) (.tmp 6) _ rfl w.heap.size 5 Zz1 underlying46 rfl (by decide) _ 0 [] rfl (World.ownsRow_made w #[] 0 (Yb _) (by simp[maxLen]) (by simp)) w.heap.size (some a) L.length c (L.map (Value.int .u8)) rfl (by simp) (λ h=>by cases h) g (by simp[Value.oneCell']) (by simp only[maxLen];omega) (by omega) (by simp) ?_;intro v' w1 d q i j;obtain⟨s,c1,rfl⟩:=Zc d)
  go_ret
  simp only[Nat.zero_add,List.nil_append] at d;exact⟨s,c1,by simp,d,((Yh _ _).alloc (Yb _) _).trans i⟩
def RunAt (w:World)(B p:Nat)(vm vo:Value)(A:Option Addr)(c:Nat)(inp:List Int)(m':Mach)(w':World):Prop :=
 ∃vo' rd',MAt w' B p vm vo' A c inp rd' m'/\Only (Za0 p vm vo) w w'/\(vo'.ownBlock=vo.ownBlock\/∃k,w.heap.size<=k/\vo'.ownBlock=some k)
theorem RunAt.next {w w1 g:World}{m1 m2:Mach}{a:Value}{d:Nat}(h1:MAt w1 B p vm a A c inp d m1)(h2:Only (Za0 p vm vo) w w1)(h3:a.ownBlock=vo.ownBlock\/∃k,w.heap.size<=k/\a.ownBlock=some k)(j:RunAt w1 B p vm a A c inp m2 g):RunAt w B p vm vo A c inp m2 g:=by
 obtain⟨b,f,l,k2,h⟩:=j;have hz:=h2.size;refine⟨b,f,l,h2.trans k2 (λ i hi hf=>?_),?_⟩
 .rcases hf with e|e|e
  .exact .inl e
  .exact .inr (.inl e)
  .rcases h3 with e2|⟨k,hk,e2⟩
   .exact .inr (.inr (e2 ▸ e))
   .rw[e2] at e;cases e;omega
 .rcases h with e|⟨k,hk,e⟩
  .rw[e];exact h3
  .exact .inr ⟨k,by omega,e⟩
theorem Zwh {m:Mach}(h:MAt w B p vm vo A c inp rd m)(a:m.out.length<=1000000000)(b:0<=m.steps/\m.steps<=1000000000) :
 Calls prog 58 #[.pointer (some ⟨p,0,none⟩)] w λ e w'=>e=.returned (.int .i64 m.step.state)/\RunAt w B p vm vo A c inp m.step w':=Zwe h a b
theorem Zz2 (fuel:Int)(h:MAt w B p vm vo A c inp rd m)(H:m.out.length<=500000000)(L:0<=m.steps/\m.steps<=500000000)(hf:fuel<=100000000) :
 Calls prog 23 #[.pointer (some ⟨p,0,none⟩),.int .i64 fuel] w λ e w'=>e=.returned (.int .i64 (m.steps_ fuel.toNat).state)/\RunAt w B p vm vo A c inp (m.steps_ fuel.toNat) w':=by
 have O:=h.lt;have b:∃d:Nat,fuel.toNat=d/\d<=100000000/\((fuel<0/\d=0)\/(¬fuel<0/\fuel=d)):=⟨fuel.toNat,rfl,by omega,by omega⟩
 obtain⟨d,r,G,b⟩:=b;rw[r];clear r hf;go_enter func23,ntmps23
 go_wp2_with fail
 refine(Zal h).mono ?_;rintro e w2 ⟨rfl,rfl⟩;go_upto_region 3 with fail
 go_cut [9,10] from 8 to 10 (λ K y wc=>K=.int .i64 d/\y=.int .i64 0/\wc=w)
 case first =>
  rcases b with⟨h0,rfl⟩|⟨h0,rfl⟩
  .go_wp2_with fail
   all_goals
    go_meet
    exact⟨by first|rfl | (congr 2;omega),rfl,rfl⟩
  .go_wp2_with fail
   all_goals
    go_meet
    exact⟨by first|rfl | (congr 2;omega),rfl,rfl⟩
 case rest =>
 obtain⟨rfl,rfl,rfl⟩:=hcut;clear b;go_wp2_with fail
 go_loopw [10] (λ i wr=>∃k:Nat,k<=d/\i=.int .i64 k/\RunAt wc B p vm vo A c inp (m.steps_ k) wr) (λ i _=>d-(intOf i).toNat)
 case atStart=>exact⟨0,by omega,rfl,vo,rd,h,Only.refl _ _,.inl rfl⟩
 case round =>
  obtain⟨k,hk,rfl,P⟩:=hrel;obtain⟨x,z,f,o,l⟩:=P;have hg:=Zk5 m k;have v:=f.cells;obtain⟨_,_,_,_,_,M,_⟩:=v;have I:=f.lt;by_cases F:k<d
  .go_wp2_with fail
   refine(Zwh f (by omega) (by omega)).mono ?_;rintro e J ⟨rfl,s⟩;have q:RunAt wc B p vm vo A c inp (m.steps_ (k+1)) J:=RunAt.next f o l s;by_cases n:(m.steps_ k).step.state=0
   .have d0:((m.steps_ k).step.state != 0)=false:=by simp[n]
    clear n;go_wp2_with fail
    go_roundw
    case rel=>exact⟨k+1,by omega,by go_num,q⟩
    case measure=>simp[intOf];omega
   .have d0:((m.steps_ k).step.state != 0)=true:=by simpa using n
    have a:=Zk6 (m:=m) (k:=k+1) n (d-(k+1));rw[show k+1+(d-(k+1))=d by omega] at a;have j:=Ya a;obtain⟨t,D,g,u,C⟩:=q;obtain⟨_,_,_,_,_,E,_⟩:=g.cells;have N:=g.lt;clear n a s;go_wp2_with fail
    go_ret
    rw[j.out];exact⟨rfl,t,D,g,u,C⟩
  .have hke:k=d:=by omega
   subst hke;go_wp2_with fail
   go_ret
   exact⟨rfl,x,z,f,o,l⟩
end
end
section
section
variable {w w':World}{B p:Nat}{vm vo:Value}{A:Option Addr}{c:Nat}{inp:List Int}{rd:Nat}{m:Mach}
namespace S.Mach
def setV (m:Mach)(i v:Int):Mach:=if 0<=i/\i<32 then m.put i v else m
def putV (m:Mach)(i v:Int):Mach:=if 0<=i/\i<m.mem.length then { m with mem:=m.mem.set i.toNat v } else m
def goV (m:Mach)(v:Int):Mach:=if m.state≠0 then m else { m with place:=v }
end S.Mach
theorem Zrj (i v:Int)(h:MAt w B p vm vo A c inp rd m)(g:0<=v/\v<=4294967295):Calls prog 12 #[.pointer (some ⟨p,0,none⟩),.int .i64 i,.int .u32 v] w
 λ e w'=>e=.returned (.int .i64 (if 0<=i/\i<32 then 0 else 2))/\MAt w' B p vm vo A c inp rd (m.setV i v)/\Only (·=p) w w':=by
 have j:=h.lt;have d:=Ya h;by_cases h0:i<0
 .have Hc:=Ya (show ¬(0<=i/\i<32) by omega)
  go_enter func12,ntmps12
  go_wp2_with fail
  refine(Zal h).mono ?_;rintro e f ⟨rfl,rfl⟩;go_wp2_with fail
  go_ret
  simp only[Mach.setV,if_neg Hc.out];exact⟨rfl,d.out,Only.refl _ _⟩
 .by_cases h1:32<=i
  .have Hc:=Ya (show ¬(0<=i/\i<32) by omega)
   go_enter func12,ntmps12
   go_wp2_with fail
   refine(Zal h).mono ?_;rintro e f ⟨rfl,rfl⟩;go_wp2_with fail
   go_ret
   simp only[Mach.setV,if_neg Hc.out];exact⟨rfl,d.out,Only.refl _ _⟩
  .have Hc:=Ya (show 0<=i/\i<32 by omega)
   go_enter func12,ntmps12
   go_wp2_with fail
   refine(Zal h).mono ?_;rintro e f ⟨rfl,rfl⟩;go_wp2_with fail
   refine(Zcb _ _ h (by omega) (by omega) g).mono ?_;rintro e w3 ⟨rfl,b,a⟩;go_wp2_with fail
   go_ret
   simp only[Mach.setV,if_pos Hc.out];exact⟨rfl,b,a⟩
theorem Zrk (i v:Int)(h:MAt w B p vm vo A c inp rd m)(u:0<=v/\v<=4294967295):Calls prog 13 #[.pointer (some ⟨p,0,none⟩),.int .i64 i,.int .u32 v] w
 λ e w'=>e=.returned (.int .i64 (if 0<=i/\i<m.mem.length then 0 else 2))/\MAt w' B p vm vo A c inp rd (m.putV i v)/\Only (Za0 p vm vo) w w':=by
 have z:=h.lt;have o:=Ya h;have s:=h.low0;obtain⟨g,cap,a,hg,d,j⟩:=h.memv;obtain⟨l,_⟩:=h.cells;rw[a] at l;have b:=Ya a;have n:=Ya d;clear a d;by_cases h0:i<0
 .have f:=Ya (show ¬(0<=i/\i<m.mem.length) by omega)
  go_enter func13,ntmps13
  go_wp2_with fail
  refine(Zal h).mono ?_;rintro e r ⟨rfl,rfl⟩;go_wp2_with fail
  go_ret
  simp only[Mach.putV,if_neg f.out];exact⟨rfl,o.out,Only.refl _ _⟩
 .by_cases h1:(m.mem.length:Int)<=i
  .have f:=Ya (show ¬(0<=i/\i<m.mem.length) by omega)
   go_enter func13,ntmps13
   go_wp2_with fail
   refine(Zal h).mono ?_;rintro e r ⟨rfl,rfl⟩;go_wp2_with fail
   go_ret
   simp only[Mach.putV,if_neg f.out];exact⟨rfl,o.out,Only.refl _ _⟩
  .obtain⟨k,rfl⟩:∃k:Nat,i=k:=⟨i.toNat,by omega⟩
   have q:k<m.mem.length:=by omega
   have f:=Ya (show 0<=(k:Int)/\(k:Int)<m.mem.length by omega);have x:=n.out k q;have t:=j k;have y:=Ya (h.sw b.out u q);go_enter func13,ntmps13
   go_wp2_with fail
   refine(Zal h).mono ?_;rintro e r ⟨rfl,rfl⟩;go_wp2_with fail
   go_ret
   simp only[Mach.putV,if_pos f.out,Yaj];exact⟨rfl,y.out,Only.setCell _ (show Za0 p vm vo g from .inr (.inl (by rw[b.out];rfl))) _⟩
theorem Z29 (v:Int)(h:MAt w B p vm vo A c inp rd m)(f:0<=v/\v<=4294967295):Calls prog 43 #[.pointer (some ⟨p,0,none⟩),.int .u32 v] w
 λ e w'=>e=.returned (.int .i64 (if m.state≠0 then 2 else 0))/\MAt w' B p vm vo A c inp rd (m.goV v)/\Only (·=p) w w':=by
 have l:=h.lt;have d:=Ya h;obtain⟨_,g,_,_,_,j,_⟩:=h.cells;have f33:=h.fz 33;by_cases a:m.state=0
 .have d0:(m.state != 0)=false:=by simp[a]
  have b:=Ya a;have k:=Ya (h.went f);clear a;go_enter func43,ntmps43
  go_wp2_with fail
  refine(Zal h).mono ?_;rintro e i ⟨rfl,rfl⟩;go_wp2_with fail
  go_ret
  simp only[Mach.goV,if_neg (show ¬m.state≠0 from λ q=>q b.out)];exact⟨rfl,k.out,Only.setCell (F:=(·=p)) _ rfl _⟩
 .have d0:(m.state != 0)=true:=by simpa using a
  have b:=Ya a;clear a;go_enter func43,ntmps43
  go_wp2_with fail
  refine(Zal h).mono ?_;rintro e i ⟨rfl,rfl⟩;go_wp2_with fail
  go_ret
  simp only[Mach.goV,if_pos (show m.state≠0 from b.out)];exact⟨rfl,d.out,Only.refl _ _⟩
end
end
def Zk7 (words:List Int)(size:Nat)(input:List Int):Mach:=⟨Yt 32 0,words++Yt (size-words.length) 0,0,input,[],0,0,0,0⟩
def Zji (n:Nat)(size:Int):Prop:=1<=size/\size<=335544320/\(n:Int)<=size
theorem Zgb (n i:Nat):(Yt n (0:Int)).getD i 0=0:=by
 by_cases h:i<n <;> simp[h]
theorem Zwi {words:List Int}{size:Nat}{input:List Int}(hs:1<=size)(hl:words.length<=size)(a:∀x∈words,0<=x/\x<=4294967295)(hi:∀x∈input,0<=x/\x<=255):(Zk7 words size input).Ok:=by
 refine⟨by simp[Zk7],λ i=>?_,?_,?_,λ i=>?_,Y5 _,show(0:Int)<=4294967295 by decide,hi,λ x b=>by simp[Zk7] at b,Y5 _,show(0:Int)<=4294967295 by decide⟩
 .show 0<=(Yt 32 (0:Int)).getD i 0/\(Yt 32 (0:Int)).getD i 0<=4294967295
  rw[Zgb];decide
 .show(Yt 32 (0:Int)).getD 0 0=0
  rw[Zgb]
 .simp[Zk7];omega
 .show 0<=(words++Yt (size-words.length) 0).getD i 0/\(words++Yt (size-words.length) 0).getD i 0<=4294967295
  by_cases h:i<words.length
  .have e:(words++Yt (size-words.length) 0).getD i 0=words[i]:=by simp[List.getElem?_append_left h,List.getElem?_eq_getElem h]
   rw[e];exact a _ (List.getElem_mem _)
  .have e:(words++Yt (size-words.length) (0:Int)).getD i 0=(Yt (size-words.length) (0:Int)).getD (i-words.length) 0:=by
    simp only[List.getD_eq_getElem?_getD];rw[List.getElem?_append_right (by omega)]
   rw[e,Zgb]
   decide
