/- Parts. -/
import Derived.Test.YtcjhmiijbojgeaaGreatDoorProg
import Derived.Test.YtcjhmiijbojgeaaGreatDoorZOwnB
set_option linter.all false
namespace Go.Proofs.YtcjhmiijbojgeaaGreatDoor
open S Go.Proofs.Tryz Go.RowKit
theorem Zcw (n:Int)(w:World):Calls prog 159 #[.int .i64 n] w λ e w'=>e=.returned (.int .u32 (u32m n))/\w=w':=by
 go_enter func159,ntmps159
 go_wp2
 go_ret
 refine⟨Zu ?_,rfl⟩;simp only[u32m,wrap32];omega
def tv (b:Bool):Int:=if b=true then 1 else 0
theorem Zld (p:Prop)[Decidable p]:tv (decide p)=truth p:=by simp[tv,truth]
theorem Zf8 (b:Bool)(w:World):Calls prog 190 #[.bool b] w λ e w'=>e=.returned (.int .u32 (tv b))/\w=w':=by
 cases b
 all_goals
  go_enter func190,ntmps190
  go_wp2
  go_ret
  exact⟨rfl,rfl⟩
theorem Zmp (op a b:Int)(w:World)(a0:0<=a)(c:a<=4294967295)(d:0<=b)(f:b<=4294967295) :
 Calls prog 161 #[.int .i64 op,.int .u32 a,.int .u32 b] w λ e w'=>e=.returned (.bool (goes op a b))/\w=w':=by
 have ha:=Zef a0 c;have hb:=Zef d f;go_enter func161,ntmps161
 go_wp2
 all_goals
  go_ret
  refine⟨Zf ?_,rfl⟩
  first
   | grind [goes]
   | simp_all[goes]
theorem Zrq (a b:Int)(w:World)(a0:0<=a)(d:a<=4294967295)(c:0<=b)(f:b<=4294967295) :
 Calls prog 189 #[.int .u32 a,.int .u32 b] w λ e w'=>e=.returned (.tuple #[.int .u32 (a*b/4294967296),.int .u32 (u32m (a*b))])/\w=w':=by
 have m0:0<=a*b:=Int.mul_nonneg a0 c;have m1:a*b<=4294967295*4294967295:=Int.mul_le_mul d f c (by omega);go_enter func189,ntmps189
 go_wp2_with fail
 go_ret2
 exact⟨by simp[u32m],rfl⟩
theorem Z4l (op a b:Int)(w:World)(a0:0<=a)(h:a<=4294967295)(d:0<=b)(i:b<=4294967295)(m:1<=op/\op<=14)(j:¬(b=0/\(op=5\/op=6))) :
 Calls prog 158 #[.int .i64 op,.int .u32 a,.int .u32 b] w λ e w'=>e=.returned (.tuple #[.int .u32 (alu op a b),.bool true])/\w=w':=by
 have k:op=5\/op=6\/op=4\/op=13\/op=14\/op=1\/op=2\/op=3\/op=7\/op=8\/op=9\/op=10\/op=11\/op=12:=by omega
 have ha:=Zef a0 h;have hb:=Zef d i;have o:=Zaf 5 b 32 31 rfl rfl (by omega) d (by omega);have l:0<=b%32:=by omega
 have n:b%32<=31:=by omega
 have g:=Lib.hid j;clear j m;rcases k with rfl|rfl|rfl|rfl|rfl|rfl|rfl|rfl|rfl|rfl|rfl|rfl|rfl|rfl
 .have hbz:¬b=0:=by have:=g.out;omega
  have f:(b==0)=false:=by simpa using hbz
  have c:1<=b:=by omega
  have q0:0<=a/b:=Int.ediv_nonneg a0 d;have q1:a/b<=4294967295:=by
   have:=Int.ediv_le_self b a0;omega
  go_enter func158,ntmps158
  go_wp2_with fail
  go_ret2
  exact⟨by simp[alu],rfl⟩
 .have hbz:¬b=0:=by have:=g.out;omega
  have f:(b==0)=false:=by simpa using hbz
  have c:1<=b:=by omega
  go_enter func158,ntmps158
  go_wp2_with fail
  go_ret2
  exact⟨by simp[alu],rfl⟩
 .go_enter func158,ntmps158
  go_wp2_with fail
  refine(Zrq _ _ _ a0 h d i).mono ?_;rintro e w' ⟨rfl,rfl⟩;go_wp2_with fail
  go_ret2
  exact⟨by simp[alu],rfl⟩
 .go_enter func158,ntmps158
  go_wp2_with fail
  refine(Zf8 _ _).mono ?_;rintro e w' ⟨rfl,rfl⟩;go_wp2_with fail
  go_ret2
  exact⟨by simp[alu,Zld],rfl⟩
 .go_enter func158,ntmps158
  go_wp2_with fail
  refine(Zf8 _ _).mono ?_;rintro e w' ⟨rfl,rfl⟩;go_wp2_with fail
  go_ret2
  exact⟨by simp[alu,Zld],rfl⟩
 all_goals
  go_enter func158,ntmps158
  go_wp2_with fail
  go_ret2
  exact⟨by simp[alu,u32m],rfl⟩
theorem Z4m (op a:Int)(w:World)(b:op=5\/op=6) :
 Calls prog 158 #[.int .i64 op,.int .u32 a,.int .u32 0] w λ e w'=>e=.returned (.tuple #[.int .u32 0,.bool false])/\w=w':=by
 rcases b with rfl|rfl
 all_goals
  go_enter func158,ntmps158
  go_wp2_with fail
  go_ret2
  exact⟨rfl,rfl⟩
theorem Z4n (op a b:Int)(w:World)(a0:0<=a)(f:a<=4294967295)(c:0<=b)(h:b<=4294967295)(i:15<=op/\op<=22) :
 Calls prog 158 #[.int .i64 op,.int .u32 a,.int .u32 b] w λ e w'=>e=.returned (.tuple #[.int .u32 (alu (like op) a b),.bool true])/\w=w':=by
 have d:op=22\/op=15\/op=16\/op=17\/op=18\/op=19\/op=20\/op=21:=by omega
 have ha:=Zef a0 f;have hb:=Zef c h;have k:=Zaf 5 b 32 31 rfl rfl (by omega) c (by omega);have g:0<=b%32:=by omega
 have j:b%32<=31:=by omega
 clear i;rcases d with rfl|rfl|rfl|rfl|rfl|rfl|rfl|rfl
 .go_enter func158,ntmps158
  go_wp2_with fail
  refine(Zf8 _ _).mono ?_;rintro e w' ⟨rfl,rfl⟩;go_wp2_with fail
  go_ret2
  exact⟨by simp[alu,like,Zld],rfl⟩
 all_goals
  go_enter func158,ntmps158
  go_wp2_with fail
  go_ret2
  exact⟨by simp[alu,like,u32m],rfl⟩
theorem Z4o (a b:Int)(w:World)(b0:0<=b)(b1:b<=4294967295) :
 Calls prog 158 #[.int .i64 23,.int .u32 a,.int .u32 b] w λ e w'=>e=.returned (.tuple #[.int .u32 (u32m (b*65536)),.bool true])/\w=w':=by
 go_enter func158,ntmps158
 go_wp2_with fail
 go_ret2
 exact⟨by simp[u32m],rfl⟩
