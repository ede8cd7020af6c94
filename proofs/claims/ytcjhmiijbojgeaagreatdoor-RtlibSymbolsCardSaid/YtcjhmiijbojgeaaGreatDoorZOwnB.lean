/- Parts. -/
import Derived.Test.YtcjhmiijbojgeaaGreatDoorZAsmLfp
import Derived.Test.YtcjhmiijbojgeaaGreatDoorZOwn
import Derived.Lib.ItoaNum
import Derived.Lib.AtoiAll
import Derived.Lib.Strings
import Derived.Laws.BitsLemmas
import Derived.Laws.BitsAllLaws
set_option linter.all false
namespace Go.Proofs.YtcjhmiijbojgeaaGreatDoor
open S Go.RowKit
namespace S
def nameTab:List (List UInt8):=[[],[97,100,100],[115,117,98],[109,117,108],[109,117,108,104],[100,105,118],[114,101,109],[97,110,100],[111,114],[120,111,114],[115,108,108],[115,114,108],[115,114,97],[115,108,116],[115,108,116,117],[97,100,100,105],[97,110,100,105],[111,114,105],[120,111,114,105],[115,108,108,105],[115,114,108,105],[115,114,97,105],[115,108,116,105],[108,117,105],[108,119],[115,119],[98,101,113],[98,110,101],[98,108,116],[98,103,101],[98,108,116,117],[98,103,101,117],[106,97,108],[106,97,108,114],[105,110],[111,117,116],[104,97,108,116]]
def Z69 (op:Int):List UInt8:=if 0<=op/\op<37 then nameTab.getD op.toNat [] else []
def digF:Nat->Nat->List UInt8
 | 0,u=>[UInt8.ofNat (48+u%10)]
 | f+1,u=>if u<10 then [UInt8.ofNat (48+u)] else digF f (u/10)++[UInt8.ofNat (48+u%10)]
def itoa (n:Int):List UInt8:=if n<0 then 45::digF 20 n.natAbs else digF 20 n.toNat
def part (is:Bool)(mark:List UInt8)(n:Int):List UInt8:=if is=true then 32::(mark++itoa n) else []
def text (x:Inst):List UInt8 :=
 if good x=true then Z69 x.op++(part (hasD (form x.op)) [114] x.d++(part (hasA (form x.op)) [114] x.a++(part (hasB (form x.op)) [114] x.b++part (decide (0<bitsOf (form x.op))) [] x.imm))) else [63]
def words:List UInt8->List (List UInt8)
 | []=>[[]]
 | c::r=>if c=32 then []::words r else match words r with
  | []=>[[c]]
  | w::t=>(c::w)::t
end S
theorem Zou:∀(f u:Nat),u<10^(f+1)->S.digF f u=Lib.decDigits u
 | 0,u,h=>by
  have b:u<10:=by simpa using h
  rw[Lib.decDigits_one b]
  show [UInt8.ofNat (48+u%10)]=_
  rw[Nat.mod_eq_of_lt b]
 | f+1,u,h=>by
  show(if u<10 then [UInt8.ofNat (48+u)] else S.digF f (u/10)++[UInt8.ofNat (48+u%10)])=_
  by_cases a:u<10
  .rw[if_pos a,Lib.decDigits_one a]
  .rw[if_neg a,Zou f (u/10) (by rw[Nat.pow_succ] at h;omega)]
   conv=>rhs;rw[Lib.decDigits,dif_neg a]
theorem Z1z {n:Int}(h:-1000000000000000000000<n/\n<1000000000000000000000):S.itoa n=Lib.itoa n:=by
 have e:(10:Nat)^(20+1)=1000000000000000000000:=by decide
 unfold S.itoa Lib.itoa
 split
 .rw[Zou 20 _ (by rw[e];omega)]
 .rw[Zou 20 _ (by rw[e];omega)]
namespace S
def opOf (w:Int):Int:=w/67108864
def rawD (w:Int):Int:=if hasD (form (opOf w))=true then w/2097152%32 else 0
def rawA (w:Int):Int:=if hasA (form (opOf w))=true then(if hasD (form (opOf w))=true then w/65536%32 else w/2097152%32) else 0
def rawB (w:Int):Int:=if hasB (form (opOf w))=true then(if hasD (form (opOf w))=true then w/2048%32 else w/65536%32) else 0
def rawI (w:Int):Int :=
 if form (opOf w)=5 then(if 1048576<=w%2097152 then w%2097152-2097152 else w%2097152)
 else if 2<=form (opOf w)/\form (opOf w)<=4 then(if least (opOf w)<0/\32768<=w%65536 then w%65536-65536 else w%65536)
 else 0
def raw (w:Int):Inst:=⟨opOf w,rawD w,rawA w,rawB w,rawI w⟩
def decB (w:Int):Bool:=good (raw w) && decide (enc (raw w)=w)
def dec (w:Int):Inst:=if decB w=true then raw w else⟨0,0,0,0,0⟩
def decE (w:Int):Int:=if decB w=true then 0 else 11
end S
theorem Z4t {x:S.Inst}(h:S.good x=true):0<=S.enc x/\S.enc x<=4294967295:=by
 obtain⟨op,d,a,b,imm⟩:=x;obtain⟨o1,o2,d1,d2,a1,a2,b1,b2,e⟩:=Zfa h;rcases e with⟨h,_,_,_,_,i1,c⟩|⟨h,_,_,_,_,i1,c⟩|⟨h,_,_,_,_,i1,c⟩|⟨h,_,_,_,_,i1,c⟩|⟨h,_,_,_,_,i1,c⟩|⟨h,_,_,_,_,i1,c⟩|⟨h,_,_,_,_,i1,c⟩
 all_goals
  simp only[S.enc,h];simp;omega
theorem Z10 {x:S.Inst}(h:S.good x=true):S.raw (S.enc x)=x:=by
 obtain⟨op,d,a,b,imm⟩:=x;have hg:=h;obtain⟨o1,o2,d1,d2,a1,a2,b1,b2,o⟩:=Zfa h;simp only[S.good,Bool.and_eq_true,decide_eq_true_eq,S.reg] at hg;obtain⟨⟨⟨⟨⟨_,k⟩,m⟩,n⟩,g5⟩,g6⟩:=hg;clear h;rcases o with⟨h,c,hA,f,i,i1,j⟩|⟨h,c,hA,f,i,i1,j⟩|⟨h,c,hA,f,i,i1,j⟩|⟨h,c,hA,f,i,i1,j⟩|⟨h,c,hA,f,i,i1,j⟩|⟨h,c,hA,f,i,i1,j⟩|⟨h,c,hA,f,i,i1,j⟩
 all_goals
  rw[c] at k;rw[hA] at m;rw[f] at n;simp at k m n;have l:S.opOf (S.enc ⟨op,d,a,b,imm⟩)=op:=by
   simp only[S.opOf,S.enc,h];simp;omega
  simp only[S.raw,S.rawD,S.rawA,S.rawB,S.rawI,l,c,hA,f];simp only[S.enc,h];simp;clear l
 .omega
 .have e:=Zdt op
  by_cases g:S.least op<0
  .have hm:S.least op=-32768/\most op=32767:=by
    have:op≠32/\op≠23:=by omega
    revert g;unfold S.least most;grind
   simp only[g,true_and];refine⟨by omega,by omega,?_⟩
   split <;> omega
  .simp only[g,false_and,if_false]
   refine⟨by omega,by omega,by omega⟩
 .have g:¬S.least op<0:=by
   have:S.least op=0/\most op=65535:=by
    have e:op=23:=by have:=Zdt op;omega
    subst e;decide
   omega
  simp only[g,false_and,if_false];refine⟨by omega,by omega,by omega⟩
 .have g:S.least op<0:=by
   have e:=Zdt op;have:S.least op=-32768:=by unfold S.least;grind
   omega
  simp only[g,true_and];refine⟨by omega,by omega,by omega,?_⟩
  split <;> omega
 .refine⟨by omega,by omega,?_⟩
  split <;> omega
 .omega
 .omega
theorem Zut {x:S.Inst}(h:S.good x=true):S.dec (S.enc x)=x/\S.decE (S.enc x)=0:=by
 have a:=Z10 h;have hd:S.decB (S.enc x)=true:=by
  unfold S.decB;rw[a,h];simp
 unfold S.dec S.decE;rw[hd,a];simp
theorem Z11 {w:Int}(h:S.decB w=false):S.dec w=⟨0,0,0,0,0⟩/\S.decE w=11:=by
 unfold S.dec S.decE;rw[h];simp
theorem Zyh {w:Int}(h:S.decB w=true):S.good (S.dec w)=true/\S.enc (S.dec w)=w/\S.decE w=0:=by
 have e:S.dec w=S.raw w:=by unfold S.dec;rw[h];simp
 rw[e];unfold S.decE;rw[h];simp only[S.decB,Bool.and_eq_true,decide_eq_true_eq] at h;exact⟨h.1,h.2,by simp⟩
theorem Zd0 (n:Int)(h₀:0<=n)(h₁:n<2^32):IntKind.u32.wrap n=n:=by rw[IntKind.wrap_u32];omega
theorem Zw (i:Nat)(x y:Int)(m:Int)(hm:m=2^i)(c:0<=x)(f:x%m=0)(b:x<4294967296)(d:0<=y)(a:y<m)(e:y<4294967296):bits .or .u32 x y=x+y:=by
 subst hm;exact bits_join .u32 32 (by decide) Zd0 i x y c f (by simpa using b) d a (by simpa using e)
theorem Zaf (i:Nat)(x:Int)(m n:Int)(hm:m=2^i)(b:n=m-1)(hi:i<=32)(h0:0<=x)(a:x<4294967296):bits .and .u32 x n=x%m:=by
 subst b hm;exact bits_mask .u32 32 (by decide) Zd0 i hi x h0 (by simpa using a)
theorem Z7a {op d a b imm:Int}(o1:1<=op)(o2:op<=36)(d1:0<=d)(d2:d<=31)(a1:0<=a)(a2:a<=31)(b1:0<=b)(b2:b<=31)(i1:0<=imm)(i2:imm<=0)(h:S.form op=1) :
 bits .or .u32 (bits .or .u32 (bits .or .u32 (bits .or .u32 (op*67108864) (d*2097152)) (a*65536)) (b*2048)) (bits .and .u32 imm 0)=S.enc ⟨op,d,a,b,imm⟩:=by
 rw[Zaf 0 imm 1 0 (by decide) (by omega) (by omega) (by omega) (by omega),
  Zw 26 (op*67108864) (d*2097152) 67108864 (by decide) (by omega) (by omega) (by omega) (by omega) (by omega) (by omega),
  Zw 21 (op*67108864+d*2097152) (a*65536) 2097152 (by decide) (by omega) (by omega) (by omega) (by omega) (by omega) (by omega),
  Zw 16 (op*67108864+d*2097152+a*65536) (b*2048) 65536 (by decide) (by omega) (by omega) (by omega) (by omega) (by omega) (by omega),
  Zw 11 (op*67108864+d*2097152+a*65536+b*2048) (imm%1) 2048 (by decide) (by omega) (by omega) (by omega) (by omega) (by omega) (by omega)]
 simp only[S.enc,h];simp
 try omega
theorem Z7b {op d a b imm:Int}(o1:1<=op)(o2:op<=36)(d1:0<=d)(d2:d<=31)(a1:0<=a)(a2:a<=31)(i1:-32768<=imm)(i2:imm<=65535)(h:S.form op=2) :
 bits .or .u32 (bits .or .u32 (bits .or .u32 (op*67108864) (d*2097152)) (a*65536)) (bits .and .u32 (imm%4294967296) 65535)=S.enc ⟨op,d,a,b,imm⟩:=by
 rw[Zaf 16 (imm%4294967296) 65536 65535 (by decide) (by omega) (by omega) (by omega) (by omega),
  Zw 26 (op*67108864) (d*2097152) 67108864 (by decide) (by omega) (by omega) (by omega) (by omega) (by omega) (by omega),
  Zw 21 (op*67108864+d*2097152) (a*65536) 2097152 (by decide) (by omega) (by omega) (by omega) (by omega) (by omega) (by omega),
  Zw 16 (op*67108864+d*2097152+a*65536) ((imm%4294967296)%65536) 65536 (by decide) (by omega) (by omega) (by omega) (by omega) (by omega) (by omega)]
 simp only[S.enc,h];simp
 try omega
theorem Z7c {op d a b imm:Int}(o1:1<=op)(o2:op<=36)(d1:0<=d)(d2:d<=31)(i1:0<=imm)(i2:imm<=65535)(h:S.form op=3) :
 bits .or .u32 (bits .or .u32 (op*67108864) (d*2097152)) (bits .and .u32 imm 65535)=S.enc ⟨op,d,a,b,imm⟩:=by
 rw[Zaf 16 imm 65536 65535 (by decide) (by omega) (by omega) (by omega) (by omega),
  Zw 26 (op*67108864) (d*2097152) 67108864 (by decide) (by omega) (by omega) (by omega) (by omega) (by omega) (by omega),
  Zw 21 (op*67108864+d*2097152) (imm%65536) 2097152 (by decide) (by omega) (by omega) (by omega) (by omega) (by omega) (by omega)]
 simp only[S.enc,h];simp
 try omega
theorem Z7d {op d a b imm:Int}(o1:1<=op)(o2:op<=36)(a1:0<=a)(a2:a<=31)(b1:0<=b)(b2:b<=31)(i1:-32768<=imm)(i2:imm<=32767)(h:S.form op=4) :
 bits .or .u32 (bits .or .u32 (bits .or .u32 (op*67108864) (a*2097152)) (b*65536)) (bits .and .u32 (imm%4294967296) 65535)=S.enc ⟨op,d,a,b,imm⟩:=by
 rw[Zaf 16 (imm%4294967296) 65536 65535 (by decide) (by omega) (by omega) (by omega) (by omega),
  Zw 26 (op*67108864) (a*2097152) 67108864 (by decide) (by omega) (by omega) (by omega) (by omega) (by omega) (by omega),
  Zw 21 (op*67108864+a*2097152) (b*65536) 2097152 (by decide) (by omega) (by omega) (by omega) (by omega) (by omega) (by omega),
  Zw 16 (op*67108864+a*2097152+b*65536) ((imm%4294967296)%65536) 65536 (by decide) (by omega) (by omega) (by omega) (by omega) (by omega) (by omega)]
 simp only[S.enc,h];simp
 try omega
theorem Z7e {op d a b imm:Int}(o1:1<=op)(o2:op<=36)(d1:0<=d)(d2:d<=31)(i1:-1048576<=imm)(i2:imm<=1048575)(h:S.form op=5) :
 bits .or .u32 (bits .or .u32 (op*67108864) (d*2097152)) (bits .and .u32 (imm%4294967296) 2097151)=S.enc ⟨op,d,a,b,imm⟩:=by
 rw[Zaf 21 (imm%4294967296) 2097152 2097151 (by decide) (by omega) (by omega) (by omega) (by omega),
  Zw 26 (op*67108864) (d*2097152) 67108864 (by decide) (by omega) (by omega) (by omega) (by omega) (by omega) (by omega),
  Zw 21 (op*67108864+d*2097152) ((imm%4294967296)%2097152) 2097152 (by decide) (by omega) (by omega) (by omega) (by omega) (by omega) (by omega)]
 simp only[S.enc,h];simp
 try omega
theorem Z7f {op d a b imm:Int}(o1:1<=op)(o2:op<=36)(d1:0<=d)(d2:d<=31)(i1:0<=imm)(i2:imm<=0)(h:S.form op=6) :
 bits .or .u32 (bits .or .u32 (op*67108864) (d*2097152)) (bits .and .u32 imm 0)=S.enc ⟨op,d,a,b,imm⟩:=by
 rw[Zaf 0 imm 1 0 (by decide) (by omega) (by omega) (by omega) (by omega),
  Zw 26 (op*67108864) (d*2097152) 67108864 (by decide) (by omega) (by omega) (by omega) (by omega) (by omega) (by omega),
  Zw 21 (op*67108864+d*2097152) (imm%1) 2097152 (by decide) (by omega) (by omega) (by omega) (by omega) (by omega) (by omega)]
 simp only[S.enc,h];simp
 try omega
theorem Z7g {op d a b imm:Int}(o1:1<=op)(o2:op<=36)(a1:0<=a)(a2:a<=31)(i1:0<=imm)(i2:imm<=0)(h:S.form op=7) :
 bits .or .u32 (bits .or .u32 (op*67108864) (a*2097152)) (bits .and .u32 imm 0)=S.enc ⟨op,d,a,b,imm⟩:=by
 rw[Zaf 0 imm 1 0 (by decide) (by omega) (by omega) (by omega) (by omega),
  Zw 26 (op*67108864) (a*2097152) 67108864 (by decide) (by omega) (by omega) (by omega) (by omega) (by omega) (by omega),
  Zw 21 (op*67108864+a*2097152) (imm%1) 2097152 (by decide) (by omega) (by omega) (by omega) (by omega) (by omega) (by omega)]
 simp only[S.enc,h];simp
 try omega
def val (l:List Int):Int:=l.foldl (λ a x=>2*a+x) 0
namespace S
structure Mach where
 reg:List Int
 mem:List Int
 place:Int
 input:List Int
 out:List Int
 state:Int
 code:Int
 trap:Int
 steps:Int
def u32m (x:Int):Int:=x%4294967296
def sgn (w:Int):Int:=if 2147483648<=w then w-4294967296 else w
def truth (p:Prop)[Decidable p]:Int:=if p then 1 else 0
def alu (op a b:Int):Int :=
 if op=1 then u32m (a+b) else if op=2 then u32m (a-b) else if op=3 then u32m (a*b) else if op=4 then a*b/4294967296
 else if op=5 then a/b else if op=6 then a%b else if op=7 then bits .and .u32 a b else if op=8 then bits .or .u32 a b
 else if op=9 then bits .xor .u32 a b else if op=10 then u32m (a*2^(b%32).toNat) else if op=11 then a/2^(b%32).toNat
 else if op=12 then u32m (sgn a/2^(b%32).toNat) else if op=13 then truth (sgn a<sgn b) else truth (a<b)
def like (op:Int):Int:=if op=15 then 1 else op-9
def goes (op a b:Int):Bool :=
 if op=26 then decide (a=b) else if op=27 then decide (a≠b) else if op=28 then decide (sgn a<sgn b) else if op=29 then decide (sgn b<=sgn a)
 else if op=30 then decide (a<b) else decide (b<=a)
namespace Mach
def put (m:Mach)(d v:Int):Mach:=if d=0 then m else { m with reg:=m.reg.set d.toNat v }
def fell (m:Mach)(t:Int):Mach:={ m with state:=2,trap:=t }
def rd (m:Mach)(i:Int):Int:=m.reg.getD i.toNat 0
def act (m:Mach)(i:Inst):Mach×Int×Int :=
 let a:=m.rd i.a
 let b:=m.rd i.b
 let imm:=u32m i.imm
 let next:=u32m (m.place+1)
 let at_:=u32m (a+imm)
 if i.op<=14 then(if b=0/\(i.op=5\/i.op=6) then(m,0,4) else(m.put i.d (alu i.op a b),next,0))
 else if i.op<=22 then(m.put i.d (alu (like i.op) a imm),next,0)
 else if i.op=23 then(m.put i.d (u32m (imm*65536)),next,0)
 else if i.op=24 then(if at_<m.mem.length then(m.put i.d (m.mem.getD at_.toNat 0),next,0) else(m,0,2))
 else if i.op=25 then(if at_<m.mem.length then({ m with mem:=m.mem.set at_.toNat b },next,0) else(m,0,2))
 else if i.op<=31 then(m,if goes i.op a b=true then u32m (next+imm) else next,0)
 else if i.op=32 then(m.put i.d next,u32m (next+imm),0)
 else if i.op=33 then(m.put i.d next,at_,0)
 else if i.op=34 then
  match m.input with
  | []=>(m.put i.d 4294967295,next,0)
  | x::r=>(({ m with input:=r }:Mach).put i.d x,next,0)
 else if i.op=35 then({ m with out:=m.out++[a%256] },next,0)
 else({ m with state:=1,code:=a },m.place,0)
def step (m:Mach):Mach :=
 if m.state≠0 then m
 else if (m.mem.length:Int)<=m.place then m.fell 3
 else if decE (m.mem.getD m.place.toNat 0)≠0 then m.fell 1
 else if (m.act (dec (m.mem.getD m.place.toNat 0))).2.2≠0 then m.fell (m.act (dec (m.mem.getD m.place.toNat 0))).2.2
 else { (m.act (dec (m.mem.getD m.place.toNat 0))).1 with place:=(m.act (dec (m.mem.getD m.place.toNat 0))).2.1,steps:=m.steps+1 }
def steps_ (m:Mach):Nat->Mach
 | 0=>m
 | n+1=>(steps_ m n).step
structure Ok (m:Mach):Prop where
 regs:m.reg.length=32
 word:∀i,0<=m.reg.getD i 0/\m.reg.getD i 0<=4294967295
 zero:m.reg.getD 0 0=0
 mem:0<m.mem.length
 memw:∀i,0<=m.mem.getD i 0/\m.mem.getD i 0<=4294967295
 place0:0<=m.place
 place1:m.place<=4294967295
 inp:∀x∈m.input,0<=x/\x<=255
 outp:∀x∈m.out,0<=x/\x<=255
 code0:0<=m.code
 code1:m.code<=4294967295
end Mach
end S
theorem Zbb {a:Int}(h0:0<=a)(h1:a<=4294967295):(BitVec.ofInt 32 a).toNat=a.toNat:=by
 rw[BitVec.toNat_ofInt];omega
theorem u32_and {a b:Int}(a0:0<=a)(c:a<=4294967295)(d:0<=b)(e:b<=4294967295):bits .and .u32 a b=((a.toNat &&& b.toNat:Nat):Int):=by
 show IntKind.u32.wrap ((BitVec.ofInt 32 a &&& BitVec.ofInt 32 b).toNat:Int)=_
 rw[BitVec.toNat_and,Zbb a0 c,Zbb d e];exact Zd0 _ (by omega) (by have:=Nat.and_lt_two_pow a.toNat (show b.toNat<2^32 by omega);omega)
theorem u32_or {a b:Int}(a0:0<=a)(c:a<=4294967295)(d:0<=b)(e:b<=4294967295):bits .or .u32 a b=((a.toNat ||| b.toNat:Nat):Int):=by
 show IntKind.u32.wrap ((BitVec.ofInt 32 a ||| BitVec.ofInt 32 b).toNat:Int)=_
 rw[BitVec.toNat_or,Zbb a0 c,Zbb d e];exact Zd0 _ (by omega) (by have:=Nat.or_lt_two_pow (show a.toNat<2^32 by omega) (show b.toNat<2^32 by omega);omega)
theorem u32_xor {a b:Int}(a0:0<=a)(c:a<=4294967295)(d:0<=b)(e:b<=4294967295):bits .xor .u32 a b=((a.toNat ^^^ b.toNat:Nat):Int):=by
 show IntKind.u32.wrap ((BitVec.ofInt 32 a ^^^ BitVec.ofInt 32 b).toNat:Int)=_
 rw[BitVec.toNat_xor,Zbb a0 c,Zbb d e];exact Zd0 _ (by omega) (by have:=Nat.xor_lt_two_pow (show a.toNat<2^32 by omega) (show b.toNat<2^32 by omega);omega)
theorem Zef {a:Int}(a0:0<=a)(a1:a<=4294967295):IntKind.i32.wrap a=S.sgn a:=by
 unfold S.sgn;rw[IntKind.wrap_i32]
 split <;> omega
theorem Zfj (x:Int):IntKind.u32.wrap x=S.u32m x:=by
 unfold S.u32m;rw[IntKind.wrap_u32]
theorem Zad (x:Int):0<=S.u32m x/\S.u32m x<=4294967295:=by unfold S.u32m;omega
namespace S
def toOf (xs:List Item)(F:List Int)(base:Int)(x:Item):Int:=if named x=true then addr xs F base (stands xs x.label).toNat else 0
def wordsAt (xs:List Item)(F:List Int)(base:Int)(i:Nat):List Int :=
 match xs[i]? with
 | none=>[]
 | some x=>wordsOf x (F.getD i 0) (addr xs F base i) (toOf xs F base x)
def outTo (xs:List Item)(F:List Int)(base:Int):Nat->List Int
 | 0=>[]
 | k+1=>outTo xs F base k++wordsAt xs F base k
def placeAt (xs:List Item)(F:List Int)(base:Int)(i:Nat):List (ByteArray×Int) :=
 match xs[i]? with
 | none=>[]
 | some x=>if x.kind=2 then [(x.label,addr xs F base i)] else []
def placesTo (xs:List Item)(F:List Int)(base:Int):Nat->List (ByteArray×Int)
 | 0=>[]
 | k+1=>placesTo xs F base k++placeAt xs F base k
end S
theorem Zdg {xs:List S.Item}(h:firstErr xs=0):∀x∈xs,1<=x.kind/\x.kind<=8:=by
 induction xs with
 | nil=>intro x a;cases a
 | cons y r ih =>
  intro x a;rw[firstErr] at h;by_cases c:chkItem y=0
  .rw[if_neg (by simp[c])] at h
   rcases List.mem_cons.1 a with rfl|a
   .revert c;unfold chkItem;grind
   .exact ih h x a
  .rw[if_pos c] at h
   exact absurd h c
theorem Zms {x:S.Item}{form a t:Int}(hk:1<=x.kind/\x.kind<=8)(c:x.kind=3->1<=form/\form<=3)(d:x.kind=4->1<=form/\form<=2)(hw:0<=x.word) :
 ((S.wordsOf x form a t).length:Int)=if x.kind=2 then 0 else S.size x form:=by
 have b:x.kind=1\/x.kind=2\/x.kind=3\/x.kind=4\/x.kind=5\/x.kind=6\/x.kind=7\/x.kind=8:=by omega
 rcases b with h|h|h|h|h|h|h|h
 .simp[S.wordsOf,S.size,h]
 .simp[S.wordsOf,S.size,h]
 .have hf:form=1\/form=2\/form=3:=by have:=c h;omega
  rcases hf with rfl|rfl|rfl <;> simp[S.wordsOf,S.size,h]
 .have hf:form=1\/form=2:=by have:=d h;omega
  rcases hf with rfl|rfl <;> simp[S.wordsOf,S.size,h]
 .simp[S.wordsOf,S.size,h]
 .simp[S.wordsOf,S.size,h]
 .simp[S.wordsOf,S.size,h]
 .simp[S.wordsOf,S.size,h];omega
theorem Zag {xs:List S.Item}{F:List Int}{base:Int}(hF:FormOk xs F)(e:∀x∈xs,1<=x.kind/\x.kind<=8)(d:∀x∈xs,0<=x.word/\x.word<=4294967295)(i:Nat) :
 ((S.wordsAt xs F base i).length:Int)=sizeAt xs F i:=by
 unfold S.wordsAt sizeAt
 cases hx:xs[i]? with
 | none=>simp
 | some x =>
  obtain⟨a,b,_⟩:=hF.2 i x hx;have hm:=List.mem_of_getElem? hx;simp only;rw[Zms (e x hm) a b (d x hm).1]
  split
  .rename_i c;simp[S.size,c]
  .rfl
theorem Zau {xs:List S.Item}{F:List Int}{base:Int}(hF:FormOk xs F)(b:∀x∈xs,1<=x.kind/\x.kind<=8)(a:∀x∈xs,0<=x.word/\x.word<=4294967295) :
 ∀i:Nat,((S.outTo xs F base i).length:Int)=S.addr xs F base i-base
 | 0=>by simp[S.outTo,S.addr]
 | i+1=>by
  have h1:=Zau (base:=base) hF b a i;have h2:=Zag (base:=base) hF b a i;rw[S.outTo,List.length_append,S.addr];omega
theorem Zb5 (xs:List S.Item)(F:List Int)(base:Int):∀i:Nat,(S.placesTo xs F base i).length<=i
 | 0=>by simp[S.placesTo]
 | i+1=>by
  have h1:=Zb5 xs F base i;have h2:(S.placeAt xs F base i).length<=1:=by
   unfold S.placeAt
   split
   .simp
   .split <;> simp
  rw[S.placesTo,List.length_append];omega
theorem Zco {xs:List S.Item}{F:List Int}{base:Int}(hF:FormOk xs F)(a:∀x∈xs,0<=x.word/\x.word<=4294967295){i n:Nat}(h:i<=n):S.addr xs F base i<=S.addr xs F base n:=by
 obtain⟨d,rfl⟩:∃d,n=i+d:=⟨n-i,by omega⟩
 exact Zhr hF a i d
theorem Zia {xs:List S.Item}{base:Int}(h:CheckRes xs base 0):firstErr xs=0:=by
 rcases h with⟨_,h⟩|⟨_,_,h,h'⟩|⟨_,_,h,_⟩|⟨_,_,h,_⟩|⟨_,_,h,_⟩
 .omega
 .omega
 all_goals exact h
theorem Zuw {xs:List S.Item}{F:List Int}{base:Int}(hF:FormOk xs F)(a:∀x∈xs,0<=x.word/\x.word<=4294967295)(hb:0<=base)(hm:S.addr xs F base xs.length<=67108864)(x:S.Item) :
 0<=S.toOf xs F base x/\S.toOf xs F base x<=67108864:=by
 unfold S.toOf
 split
 .rcases Zaj xs x.label with⟨e,_⟩|⟨j,y,e,hj,_⟩
  .rw[e]
   have:=(Zcm (base:=base) hF a 0)
   have c:=Zco (base:=base) hF a (Nat.zero_le xs.length);have b:(-1:Int).toNat=0:=rfl;rw[b];omega
  .have hlt:=(List.getElem?_eq_some_iff.1 hj).1
   rw[e,Int.toNat_natCast];have h1:=(Zcm (base:=base) hF a j).1;have c:=Zco (base:=base) hF a (Nat.le_of_lt hlt);omega
 .omega
theorem Zmt {P:Program}{ops:Array Oper}{rest:List Oper}{o:Oper}{a:Act}{Q:Exit->Act->World->Prop}{w:World}
 (hg:o.guard=none) (l c:Operand) (t:TypeId) (g:o.op=Op.makeSlice t l c)
 (base:Nat) (e:TypeId) {z:Value} {bytes:Nat} (d:(P.info? e).map (λ i=>(i.zero,i.size,i.bytes))=some (some z,1,bytes)) (B:P.underlying t=some (.slice e)) (D:z.cells=#[z])
 (k p:IntKind) (L C:Int) (n:Nat) (A:a.eval l=.int k L) (s:a.eval c=.int p C) (r:L=(n:Int)) (x:C=(n:Int)) (v:bytes*n<=281474976710656) (y:n<=maxLen) (u:base<=w.heap.size)
 (q:∀w',w'.ownsRow base e 1 (.slice (some ⟨w.heap.size,0,none⟩) n n) n (List.replicate n z)->Below w.heap.size w w'->wpList P ops Q rest (a.put o.dst (.slice (some ⟨w.heap.size,0,none⟩) n n)) w') :
 wpList P ops Q (o::rest) a w:=by
 obtain⟨i,hi,f,b,j⟩:=info_parts d;refine wpList_make_full w hg l c t g base e i z 1 B hi f b k p L C n A s r x (by rw[j];exact v) y u λ w' m h=>q w' ?_ ((Below.refl _ _).grown h (Nat.le_refl _) (by simp))
 rw[D,Nat.mul_one,toList_madeCells_one] at m;exact m
theorem Zow {w:World}{base b:Nat}{e j:TypeId}{size c n n':Nat}{v l:Value}{xs f:List Value}(h:w.ownsRow base e size v n xs)(m:w.ownsRow b j c l n' f)(d:e≠j) :
 v.ownBlock=none\/v.ownBlock≠l.ownBlock:=by
 rcases h.2 with⟨rfl,_⟩|⟨g,cap,p,rfl,_,hg,_⟩
 .exact .inl rfl
 .right
  rcases m.2 with⟨rfl,_⟩|⟨o,k,i,rfl,_,a,_⟩
  .simp[Value.ownBlock]
  .intro he
   have:g=o:=by simpa[Value.ownBlock] using he
   subst this;rw[hg] at a
   injection a with a
   injection a with _ ht
   exact d ht
theorem Za3 {w w':World}{base a:Nat}{e g:TypeId}{size b n n':Nat}{v f:Value}{xs d:List Value}(h:w.ownsRow base e size v n xs)(i:w.ownsRow a g b f n' d)(c:e≠g)
 (hg:w.grownBy w' f.ownBlock):w'.ownsRow base e size v n xs:=h.kept hg (Zow h i c)
theorem Zch {w:World}{base:Nat}{e:TypeId}{size:Nat}{A:Option Addr}{m c n:Nat}{xs:List Value}(h:w.ownsRow base e size (.slice A m c) n xs)(hA:A=none):m=0:=by
 subst hA;rcases h.2 with⟨a,_⟩|⟨g,cap,b,a,_⟩
 .simp only[Value.slice.injEq] at a;exact a.2.1
 .simp at a
