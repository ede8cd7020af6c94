/- Parts. -/
import Derived.Test.YtldbnjajjfgipaaGreatDoorShelf
import Derived.Test.YtldbnjajjfgipaaGreatDoorZIsaB
import Derived.Test.YtldbnjajjfgipaaGreatDoorZAsmLfp
import Derived.Lib.ItoaNum
import Derived.Lib.AtoiAll
import Derived.Lib.Strings
import Derived.Lib.AppendIntMem
import Derived.Lib.SmallJoins
import Derived.Laws.BytesArg
import Derived.Deep.RegionWith
import Derived.Deep.DeepCutAuto
set_option linter.all false
set_option maxHeartbeats 16000000
open Nat renaming le_refl->Yd
namespace Go.Proofs.YtldbnjajjfgipaaGreatDoor
open S Go.Proofs.Tryz Go.RowKit
namespace S
def nameTab:List (List UInt8):=[[],[97,100,100],[115,117,98],[109,117,108],[109,117,108,104],[100,105,118],[114,101,109],[97,110,100],[111,114],[120,111,114],[115,108,108],[115,114,108],[115,114,97],[115,108,116],[115,108,116,117],[97,100,100,105],[97,110,100,105],[111,114,105],[120,111,114,105],[115,108,108,105],[115,114,108,105],[115,114,97,105],[115,108,116,105],[108,117,105],[108,119],[115,119],[98,101,113],[98,110,101],[98,108,116],[98,103,101],[98,108,116,117],[98,103,101,117],[106,97,108],[106,97,108,114],[105,110],[111,117,116],[104,97,108,116]]
def Z24 (op:Int):List UInt8:=if 0<=op/\op<37 then nameTab.getD op.toNat [] else []
def digF:Nat->Nat->List UInt8
 | 0,u=>[UInt8.ofNat (48+u%10)]
 | f+1,u=>if u<10 then [UInt8.ofNat (48+u)] else digF f (u/10)++[UInt8.ofNat (48+u%10)]
def itoa (n:Int):List UInt8:=if n<0 then 45::digF 20 n.natAbs else digF 20 n.toNat
def part (is:Bool)(mark:List UInt8)(n:Int):List UInt8:=if is=true then 32::(mark++itoa n) else []
def text (x:Inst):List UInt8 :=
 if good x=true then Z24 x.op++(part (hasD (form x.op)) [114] x.d++(part (hasA (form x.op)) [114] x.a++(part (hasB (form x.op)) [114] x.b++part (decide (0<bitsOf (form x.op))) [] x.imm))) else [63]
def words:List UInt8->List (List UInt8)
 | []=>[[]]
 | c::r=>if c=32 then []::words r else match words r with
  | []=>[[c]]
  | w::t=>(c::w)::t
end S
theorem Zm3:∀(f u:Nat),u<10^(f+1)->S.digF f u=Lib.decDigits u
 | 0,u,h=>by
  have b:u<10:=by simpa using h
  rw[Lib.decDigits_one b]
  show [UInt8.ofNat (48+u%10)]=_
  rw[Nat.mod_eq_of_lt b]
 | f+1,u,h=>by
  show(if u<10 then [UInt8.ofNat (48+u)] else S.digF f (u/10)++[UInt8.ofNat (48+u%10)])=_
  by_cases a:u<10
  .rw[if_pos a,Lib.decDigits_one a]
  .rw[if_neg a,Zm3 f (u/10) (by rw[Nat.pow_succ] at h;omega)]
   conv=>rhs;rw[Lib.decDigits,dif_neg a]
theorem Zyh {n:Int}(h:-1000000000000000000000<n/\n<1000000000000000000000):S.itoa n=Lib.itoa n:=by
 have e:(10:Nat)^(20+1)=1000000000000000000000:=by decide
 unfold S.itoa Lib.itoa
 split
 .rw[Zm3 20 _ (by rw[e];omega)]
 .rw[Zm3 20 _ (by rw[e];omega)]
structure LVE (w:World):Prop where
 tab : Lib.TabIs prog w "internal/strconv.uint64pow10" .u64 Lib.pow10Tab
 size:3<=w.heap.size
theorem Zrw : prog.globalNamed "internal/strconv.uint64pow10" = some 0 := by kernel_rfl
theorem LVE.keep {w w':World}(h:LVE w){B:Nat}(b:Below B w w')(hB:3<=B):LVE w':=by
 refine⟨?_,Nat.le_trans h.size b.size⟩;have a:=h.tab;unfold Lib.TabIs World.var? at a⊢;rw[Zrw] at a⊢;simp only[Option.bind_some] at a⊢;rw[b.block 0 (by omega)];exact a
theorem LVE.on {w w':World}(h:LVE w)(a:Below w.heap.size w w'):LVE w':=h.keep a h.size
def I64 (n:Int):Prop:=-9223372036854775808<=n/\n<=9223372036854775807
theorem Zrx (n:Int)(h:I64 n)(w:World)(b:LVE w) :
 Calls prog 120 #[.int .i64 n] w λ e w'=>e=.returned (.string ⟨(S.itoa n).toArray⟩)/\Below w.heap.size w w':=by
 obtain⟨h0,a⟩:=h;refine(Tryz.strconv_Itoa n h0 a w b.tab).mono ?_;rintro e w' ⟨rfl,k,os,rfl⟩;refine⟨by rw[Zyh (by omega)],?_⟩;exact Lib.below_grow _ _ (Yd _) _ _
theorem Zc4:∀(f u:Nat),(S.digF f u).length<=f+1
 | 0,u=>by simp[S.digF]
 | f+1,u=>by
  simp only[S.digF]
  split
  .simp
  .have:=Zc4 f (u/10)
   rw[List.length_append];simp;omega
theorem Zoa (n:Int):(S.itoa n).length<=22:=by
 unfold S.itoa;have h1:=Zc4 20 n.natAbs;have h2:=Zc4 20 n.toNat
 split
 .simp;omega
 .omega
theorem Zyi (a b:List UInt8):(⟨a.toArray⟩:ByteArray)++⟨b.toArray⟩=⟨(a++b).toArray⟩:=by
 apply ByteArray.ext
 apply Array.toList_inj.1
 rw[Go.Joins.data_append]
theorem Zyj {a b:ByteArray}(h:a=b):Ending.returned (.string a)=.returned (.string b):=by rw[h]
theorem Zpf (op d a b imm:Int)(w:World)(hg:S.good ⟨op,d,a,b,imm⟩=true) :
 Calls prog 197 #[.agg #[.int .i64 op,.int .i64 d,.int .i64 a,.int .i64 b,.int .i64 imm]] w
  λ e w'=>e=.returned (.tuple #[.int .u32 (enc ⟨op,d,a,b,imm⟩),.int .i64 0])/\Below w.heap.size w w':=by
 have hc:chk ⟨op,d,a,b,imm⟩=0:=by simp[chk,hg]
 obtain⟨g,f,d1,d2,m,l,r,s,v⟩:=Zer hg;clear hg;rcases v with⟨h,k,hA,j,i,i1,c⟩|⟨h,k,hA,j,i,i1,c⟩|⟨h,k,hA,j,i,i1,c⟩|⟨h,k,hA,j,i,i1,c⟩|⟨h,k,hA,j,i,i1,c⟩|⟨h,k,hA,j,i,i1,c⟩|⟨h,k,hA,j,i,i1,c⟩
 all_goals
  have H:=Lib.hid h;clear h;go_enter func197,ntmps197
  go_wp2_with (first
   | (go_at_call 245;refine(Zbi _ _ _ _ _ _).mono ?_;rintro e w' ⟨rfl,o⟩;obtain⟨n,x⟩:=Zhf o;have u:=o.size;simp at u)
   | (go_at_call 194;refine(Zf5 _ _).mono ?_;rintro e w' ⟨rfl,rfl⟩)
   | (go_at_call 193;refine(Zm1 _ _).mono ?_;rintro e w' ⟨rfl,rfl⟩))
  refine wp_loop_rounds 4 ?_;rw[rounds_succ]
  go_wp2
  rw[rounds_succ]
  go_wp2
  rw[rounds_succ]
  go_wp2
  rw[rounds_succ]
  go_wp2
  refine Zsu (λ q=>q.cell? ⟨w.heap.size,4,none⟩=some (.int .i64 imm)/\Below w.heap.size w q) ⟨?_,?_⟩ ?_
  .have t:w'.cell? ⟨w.heap.size,4,none⟩=some (.int .i64 imm):=by rw[n _ _ (by simp)];go_simp
   refine(Below.cell (B:=w'.heap.size) (w:=w') ?_ ?_).trans t
   .exact((((Below.refl _ _).alloc (by simp) _).alloc (by simp) _).alloc (by simp;omega) _).alloc (by simp;omega) _
   .simp;omega
  .have h0:Below w.heap.size w w':=((Below.refl _ _).alloc (Yd _) _).trans (o.mono (by simp))
   exact(((h0.alloc (by omega) _).alloc (by simp;omega) _).alloc (by simp;omega) _).alloc (by simp;omega) _
  rintro q ⟨t,p⟩
  go_quiet (fail)
  go_wp2
  go_ret2
  refine⟨Zv5 ?_ rfl,below_drewN p _⟩
  first
   | (with_reducible exact Z2j g f d1 d2 m l r s i1 c H.out)
   | (with_reducible exact Z2k g f d1 d2 m l i1 c H.out)
   | (with_reducible exact Z2l g f d1 d2 i1 c H.out)
   | (with_reducible exact Z2m g f m l r s i1 c H.out)
   | (with_reducible exact Z2n g f d1 d2 i1 c H.out)
   | (with_reducible exact Z2o g f d1 d2 i1 c H.out)
   | (with_reducible exact Z2p g f m l i1 c H.out)
theorem Zry {x:S.Inst}(h:S.good x=false):chk x=11:=by simp[chk,h]
theorem Zpg {x:S.Inst}(h:S.good x=false):wordOf x=0:=by simp[wordOf,h]
theorem Zj2 {x:S.Inst}(h:S.good x=true):chk x=0:=by simp[chk,h]
theorem Zed {x:S.Inst}(h:S.good x=true):wordOf x=enc x:=by simp[wordOf,h]
theorem Zd3 (op d a b imm:Int)(w:World) :
 Calls prog 197 #[.agg #[.int .i64 op,.int .i64 d,.int .i64 a,.int .i64 b,.int .i64 imm]] w
  λ e w'=>e=.returned (.tuple #[.int .u32 (wordOf ⟨op,d,a,b,imm⟩),.int .i64 (chk ⟨op,d,a,b,imm⟩)])/\Below w.heap.size w w':=by
 cases hg:S.good ⟨op,d,a,b,imm⟩
 .have hc:=Zry hg
  have g:=Zpg hg;rw[g];clear hg g;go_enter func197,ntmps197
  go_wp2_with (go_at_call 245;refine(Zbi _ _ _ _ _ _).mono ?_;rintro e w' ⟨rfl,c⟩)
  go_ret2
  exact⟨by simp[hc],((Below.refl _ _).alloc (Yd _) _).trans (c.mono (by simp))⟩
 .rw[Zj2 hg,Zed hg]
  exact Zpf op d a b imm w hg
theorem asm_word (op d a b imm:Int) (w:World) :
    Calls prog 240 #[.agg #[.int .i64 op,.int .i64 d,.int .i64 a,.int .i64 b,.int .i64 imm]] w
      λ e w'=>e=.returned (.int .u32 (wordOf ⟨op,d,a,b,imm⟩))/\Below w.heap.size w w':=by
  go_enter func240,ntmps240
  go_wp2_with (go_at_call 197;refine(Zd3 _ _ _ _ _ _).mono ?_;rintro e w' ⟨rfl,c⟩)
  go_ret
  exact⟨rfl,((Below.refl _ _).alloc (Yd _) _).trans (c.mono (by simp))⟩
namespace S
structure Mach where
 reg:List Int
 mem:List Int
 place:Int
 input:List Int
 out:List Int
 state:Int
 code:Int
 trap:Int
 steps:Int
def u32m (x:Int):Int:=x%4294967296
def sgn (w:Int):Int:=if 2147483648<=w then w-4294967296 else w
def truth (p:Prop)[Decidable p]:Int:=if p then 1 else 0
def alu (op a b:Int):Int :=
 if op=1 then u32m (a+b) else if op=2 then u32m (a-b) else if op=3 then u32m (a*b) else if op=4 then a*b/4294967296
 else if op=5 then a/b else if op=6 then a%b else if op=7 then bits .and .u32 a b else if op=8 then bits .or .u32 a b
 else if op=9 then bits .xor .u32 a b else if op=10 then u32m (a*2^(b%32).toNat) else if op=11 then a/2^(b%32).toNat
 else if op=12 then u32m (sgn a/2^(b%32).toNat) else if op=13 then truth (sgn a<sgn b) else truth (a<b)
def like (op:Int):Int:=if op=15 then 1 else op-9
def goes (op a b:Int):Bool :=
 if op=26 then decide (a=b) else if op=27 then decide (a≠b) else if op=28 then decide (sgn a<sgn b) else if op=29 then decide (sgn b<=sgn a)
 else if op=30 then decide (a<b) else decide (b<=a)
namespace Mach
def put (m:Mach)(d v:Int):Mach:=if d=0 then m else { m with reg:=m.reg.set d.toNat v }
def fell (m:Mach)(t:Int):Mach:={ m with state:=2,trap:=t }
def rd (m:Mach)(i:Int):Int:=m.reg.getD i.toNat 0
def act (m:Mach)(i:Inst):Mach×Int×Int :=
 let a:=m.rd i.a
 let b:=m.rd i.b
 let imm:=u32m i.imm
 let next:=u32m (m.place+1)
 let at_:=u32m (a+imm)
 if i.op<=14 then(if b=0/\(i.op=5\/i.op=6) then(m,0,4) else(m.put i.d (alu i.op a b),next,0))
 else if i.op<=22 then(m.put i.d (alu (like i.op) a imm),next,0)
 else if i.op=23 then(m.put i.d (u32m (imm*65536)),next,0)
 else if i.op=24 then(if at_<m.mem.length then(m.put i.d (m.mem.getD at_.toNat 0),next,0) else(m,0,2))
 else if i.op=25 then(if at_<m.mem.length then({ m with mem:=m.mem.set at_.toNat b },next,0) else(m,0,2))
 else if i.op<=31 then(m,if goes i.op a b=true then u32m (next+imm) else next,0)
 else if i.op=32 then(m.put i.d next,u32m (next+imm),0)
 else if i.op=33 then(m.put i.d next,at_,0)
 else if i.op=34 then
  match m.input with
  | []=>(m.put i.d 4294967295,next,0)
  | x::r=>(({ m with input:=r }:Mach).put i.d x,next,0)
 else if i.op=35 then({ m with out:=m.out++[a%256] },next,0)
 else({ m with state:=1,code:=a },m.place,0)
def step (m:Mach):Mach :=
 if m.state≠0 then m
 else if (m.mem.length:Int)<=m.place then m.fell 3
 else if decE (m.mem.getD m.place.toNat 0)≠0 then m.fell 1
 else if (m.act (dec (m.mem.getD m.place.toNat 0))).2.2≠0 then m.fell (m.act (dec (m.mem.getD m.place.toNat 0))).2.2
 else { (m.act (dec (m.mem.getD m.place.toNat 0))).1 with place:=(m.act (dec (m.mem.getD m.place.toNat 0))).2.1,steps:=m.steps+1 }
def steps_ (m:Mach):Nat->Mach
 | 0=>m
 | n+1=>(steps_ m n).step
structure Ok (m:Mach):Prop where
 regs:m.reg.length=32
 word:∀i,0<=m.reg.getD i 0/\m.reg.getD i 0<=4294967295
 zero:m.reg.getD 0 0=0
 mem:0<m.mem.length
 memw:∀i,0<=m.mem.getD i 0/\m.mem.getD i 0<=4294967295
 place0:0<=m.place
 place1:m.place<=4294967295
 inp:∀x∈m.input,0<=x/\x<=255
 outp:∀x∈m.out,0<=x/\x<=255
 code0:0<=m.code
 code1:m.code<=4294967295
end Mach
end S
namespace S
structure Obj where
 name:ByteArray
 items:List Item
def ownB (s:ByteArray):Bool:=s.data.toList.head?==some 46
def owned (n s:ByteArray):ByteArray:=if ownB s=true then n++s else s
def ownItem (n:ByteArray)(x:Item):Item:=⟨x.kind,x.inst,owned n x.label,x.word⟩
def itemsOf (o:Obj):List Item:=o.items.map (ownItem o.name)
def joined (os:List Obj):List Item:=os.flatMap itemsOf
def DupN (os:List Obj):Prop:=∃i j:Nat,∃a b:Obj,j<i/\os[i]?=some a/\os[j]?=some b/\a.name=b.name
def badN (o:Obj):Bool:=o.name.data.toList.isEmpty || ownB o.name
def NamesRes (os:List Obj)(r:Int):Prop:=(DupN os/\r=14)\/(¬DupN os/\(∃o∈os,badN o=true)/\r=2)\/(¬DupN os/\(∀o∈os,badN o=false)/\r=0)
def findP:List (ByteArray×Int)->ByteArray->Option Int
 | [],_=>none
 | p::r,s=>if p.1=s then some p.2 else findP r s
end S
theorem Zld {os:List S.Obj}{r t:Int}(h:S.NamesRes os r)(k:S.NamesRes os t):r=t:=by
 rcases h with⟨a,rfl⟩|⟨a,⟨o,c,b⟩,rfl⟩|⟨a,d,rfl⟩
 .rcases k with⟨k1,rfl⟩|⟨k1,_⟩|⟨k1,_⟩
  .rfl
  .exact absurd a k1
  .exact absurd a k1
 .rcases k with⟨k1,rfl⟩|⟨k1,_,rfl⟩|⟨k1,k2,rfl⟩
  .exact absurd k1 a
  .rfl
  .rw[k2 o c] at b;cases b
 .rcases k with⟨k1,rfl⟩|⟨k1,⟨o,c,b⟩,rfl⟩|⟨k1,k2,rfl⟩
  .exact absurd k1 a
  .rw[d o c] at b;cases b
  .rfl
theorem Zph (n s:ByteArray):(S.owned n s).size<=n.size+s.size:=by
 unfold S.owned
 split
 .simp[ByteArray.size_append]
 .omega
