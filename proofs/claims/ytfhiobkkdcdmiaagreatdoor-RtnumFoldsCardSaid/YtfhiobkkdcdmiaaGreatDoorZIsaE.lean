/- Parts. -/
import Derived.Test.YtfhiobkkdcdmiaaGreatDoorZIsaD
set_option linter.all false
set_option maxHeartbeats 1600000
open Go.Lib renaming hid->Ya
open Nat renaming le_refl->Yb,le_succ->Y2
open Go.RowKit.Below renaming refl->Yh,trans->Ybf
namespace Go.Proofs.YtfhiobkkdcdmiaaGreatDoor
open Go.RowKit
theorem Zby (p q:Value)(w:World) :
 Calls Tryz.prog 166 #[.bool false,p,q] w λ e w'=>e=.returned (.int .i64 0)/\w=w':=by
 go_enter Tryz.func166,Tryz.ntmps166
 go_wp2
 go_ret
 exact⟨rfl,rfl⟩
theorem Zag (n at_ k:Int)(bw b:Nat)(w:World)(hw:w.cell? ⟨bw,0,none⟩=some (.int .u32 n))(hb:w.cell? ⟨b,0,none⟩=some (.int .i64 at_))(hf:w.frozen? ⟨b,0,none⟩=false)
 (h0:0<=n) (h1:n<=4294967295) (hk:(at_=21/\k=2097152)\/(at_=16/\k=65536)\/(at_=11/\k=2048)) :
 Calls Tryz.prog 166 #[.bool true,.pointer (some ⟨bw,0,none⟩),.pointer (some ⟨b,0,none⟩)] w
  λ e w'=>e=.returned (.int .i64 (n/k%32))/\w.setCell ⟨b,0,none⟩ (.int .i64 (at_-5))=w':=by
 rcases hk with⟨rfl,rfl⟩|⟨rfl,rfl⟩|⟨rfl,rfl⟩
 .have hm:=Z0 5 (n/2097152) 32 31 rfl rfl (by omega) (by omega) (by omega)
  have m0:0<=n/2097152%32:=by omega
  have m1:n/2097152%32<=31:=by omega
  go_enter Tryz.func166,Tryz.ntmps166
  go_wp2
  go_ret
  exact⟨rfl,rfl⟩
 .have hm:=Z0 5 (n/65536) 32 31 rfl rfl (by omega) (by omega) (by omega)
  have m0:0<=n/65536%32:=by omega
  have m1:n/65536%32<=31:=by omega
  go_enter Tryz.func166,Tryz.ntmps166
  go_wp2
  go_ret
  exact⟨rfl,rfl⟩
 .have hm:=Z0 5 (n/2048) 32 31 rfl rfl (by omega) (by omega) (by omega)
  have m0:0<=n/2048%32:=by omega
  have m1:n/2048%32<=31:=by omega
  go_enter Tryz.func166,Tryz.ntmps166
  go_wp2
  go_ret
  exact⟨rfl,rfl⟩
theorem Zbg (n:Int):(S.chk (S.raw n)=0/\S.wordOf (S.raw n)=n/\S.dec n=S.raw n/\S.decE n=0) \/
 (S.chk (S.raw n)=0/\S.wordOf (S.raw n)≠n/\S.dec n=⟨0,0,0,0,0⟩/\S.decE n=11)\/(S.chk (S.raw n)=11/\S.dec n=⟨0,0,0,0,0⟩/\S.decE n=11):=by
 cases hd:S.decB n
 .obtain⟨h1,h2⟩:=Z0w hd
  cases hg:S.good (S.raw n)
  .exact .inr (.inr ⟨Zu8 hg,h1,h2⟩)
  .refine .inr (.inl ⟨Zlr hg,?_,h1,h2⟩)
   rw[Zfh hg];intro he;simp[S.decB,hg,he] at hd
 .have e:S.dec n=S.raw n:=by unfold S.dec;rw[hd];simp
  obtain⟨h1,h2,h3⟩:=Zxn hd;rw[e] at h1 h2;exact .inl ⟨Zlr h1,by rw[Zfh h1,h2],e,h3⟩
theorem Zf4 (n:Int):bits .and .u32 n 0=0:=by
 have h:(BitVec.ofInt 32 n &&& BitVec.ofInt 32 0)=0:=by simp
 show IntKind.u32.wrap ((BitVec.ofInt 32 n &&& BitVec.ofInt 32 0).toNat:Int)=0
 rw[h];rfl
theorem Zf {w w':World}{k:Nat}(h:Below w.heap.size w w')(hk:w.heap.size<=k)(v0 v1 v2 v3 v4:Value) :
 Below w.heap.size w (((((w'.setCell ⟨k,0,none⟩ v0).setCell ⟨k,1,none⟩ v1).setCell ⟨k,2,none⟩ v2).setCell ⟨k,3,none⟩ v3).setCell ⟨k,4,none⟩ v4) :=
 ((((h.setCell (p:=⟨k,0,none⟩) hk v0).setCell (p:=⟨k,1,none⟩) hk v1).setCell (p:=⟨k,2,none⟩) hk v2).setCell (p:=⟨k,3,none⟩) hk v3).setCell (p:=⟨k,4,none⟩) hk v4
def Zc6 (n:Int)(w:World)(e:Ending)(w':World):Prop :=
 e=.returned (.tuple #[.agg #[.int .i64 (S.dec n).op,.int .i64 (S.dec n).d,.int .i64 (S.dec n).a,.int .i64 (S.dec n).b,.int .i64 (S.dec n).imm],.int .i64 (S.decE n)])/\Below w.heap.size w w'
theorem Znk (n:Int)(w:World)(h0:0<=n)(h1:n<=4294967295)(hS:S.form (n/67108864)=0) :
 Calls Tryz.prog 109 #[.int .u32 n] w (Zc6 n w):=by
 have hmf:=Y_f
 have hl:¬S.least (n/67108864)<0:=by
  have e:=Zak (n/67108864);unfold S.least;grind
 have hd:S.hasD (S.form (n/67108864))=false:=by rw[hS];rfl
 have ha:S.hasA (S.form (n/67108864))=false:=by rw[hS];rfl
 have hb:S.hasB (S.form (n/67108864))=false:=by rw[hS];rfl
 have hr:S.raw n=⟨n/67108864,0,0,0,0⟩:=by
  simp only[S.raw,S.opOf,S.rawD,S.rawA,S.rawB,S.rawI,hd,ha,hb];simp[hS,hl]
 have Hr:=Ya hr;have HD:=Ya hd;have HA:=Ya ha;have HB:=Ya hb;have HI:=Ya (show S.bitsOf (S.form (n/67108864))=0 by rw[hS];rfl);have HL:=Ya (show decide (S.least (n/67108864)<0)=false by simpa using hl);clear hS hd ha hb hr hl;have hmask:=Zf4 n;go_enter Tryz.func109,Tryz.ntmps109
 go_wp2_with fail
 refine(Zay _ _).mono ?_;rintro e w' ⟨rfl,rfl⟩;go_wp2_with fail
 refine(Zbw _ _).mono ?_;rintro e w' ⟨rfl,rfl⟩;rw[HD.out,HA.out,HB.out,HI.out];go_wp2_with fail
 refine(Zby _ _ _).mono ?_;rintro e w' ⟨rfl,rfl⟩;go_wp2_with fail
 refine(Zby _ _ _).mono ?_;rintro e w' ⟨rfl,rfl⟩;go_wp2_with fail
 refine(Zby _ _ _).mono ?_;rintro e w' ⟨rfl,rfl⟩;go_wp2_with fail
 go_region
 go_wp2_with fail
 refine(Zai _ _).mono ?_;rintro e w' ⟨rfl,rfl⟩;rw[HL.out];go_wp2_with fail
 refine(Zq _ _ _ _ _ _).mono ?_;rintro e w' ⟨rfl,hb⟩;rw[<- Hr.out];have hb0:Below w.heap.size w w':=Ybf ((((((Yh _ _).alloc (Yb _) _).alloc (by simp) _).alloc (by simp;omega) _).alloc (by simp;omega) _).drew) (hb.mono (by simp;omega));obtain⟨hc1,hc2⟩:=Zcr hb;have hz:=hb.size;clear hb;simp at hz;have Hb:=Ya hb0;clear hb0;have g0:w.heap.size<w'.heap.size:=by omega
 have g1:w.heap.size+1<w'.heap.size:=by omega
 rcases Zbg n with⟨e1,e2,e3,e4⟩|⟨e1,e2,e3,e4⟩|⟨e1,e3,e4⟩
 .rw[e1,e2]
  have hne:(n != n)=false:=by simp
  have E3:=Ya e3;have E4:=Ya e4;clear e1 e2 e3 e4;go_wp2_with fail
  refine bodyPost_ret (v:=.tuple #[.agg #[.int .i64 (n/67108864),.int .i64 (0),.int .i64 (0),.int .i64 (0),.int .i64 (0)],.int .i64 0]) (by simp[results,Tryz.results109,go_sem,hc1,g0,g1]) rfl ⟨?_,?_⟩
  .rw[E3.out,E4.out,Hr.out]
  .exact Zf Hb.out (Y2 _) _ _ _ _ _
 .rw[e1]
  generalize S.wordOf (S.raw n)=wd at *;have hne:(wd != n)=true:=by rw[bne_iff_ne];exact e2
  have E3:=Ya e3;have E4:=Ya e4;clear e1 e2 e3 e4;go_wp2_with fail
  refine bodyPost_ret (v:=.tuple #[.agg #[.int .i64 0,.int .i64 0,.int .i64 0,.int .i64 0,.int .i64 0],.int .i64 11]) (by simp[results,Tryz.results109,go_sem,hc1,g0,g1]) rfl ⟨?_,?_⟩
  .rw[E3.out,E4.out]
  .exact Zf Hb.out (Y2 _) _ _ _ _ _
 .rw[e1]
  have E3:=Ya e3;have E4:=Ya e4;clear e1 e3 e4;go_wp2_with fail
  refine bodyPost_ret (v:=.tuple #[.agg #[.int .i64 0,.int .i64 0,.int .i64 0,.int .i64 0,.int .i64 0],.int .i64 11]) (by simp[results,Tryz.results109,go_sem,hc1,g0,g1]) rfl ⟨?_,?_⟩
  .rw[E3.out,E4.out]
  .exact Zf Hb.out (Y2 _) _ _ _ _ _
theorem Znl (n:Int)(w:World)(h0:0<=n)(h1:n<=4294967295)(hS:S.form (n/67108864)=1) :
 Calls Tryz.prog 109 #[.int .u32 n] w (Zc6 n w):=by
 have hmf:=Y_f
 have hl:¬S.least (n/67108864)<0:=by
  have e:=Zak (n/67108864);unfold S.least;grind
 have hd:S.hasD (S.form (n/67108864))=true:=by rw[hS];rfl
 have ha:S.hasA (S.form (n/67108864))=true:=by rw[hS];rfl
 have hb:S.hasB (S.form (n/67108864))=true:=by rw[hS];rfl
 have hr:S.raw n=⟨n/67108864,n/2097152%32,n/65536%32,n/2048%32,0⟩:=by
  simp only[S.raw,S.opOf,S.rawD,S.rawA,S.rawB,S.rawI,hd,ha,hb];simp[hS,hl]
 have Hr:=Ya hr;have HD:=Ya hd;have HA:=Ya ha;have HB:=Ya hb;have HI:=Ya (show S.bitsOf (S.form (n/67108864))=0 by rw[hS];rfl);have HL:=Ya (show decide (S.least (n/67108864)<0)=false by simpa using hl);clear hS hd ha hb hr hl;have hmask:=Zf4 n;go_enter Tryz.func109,Tryz.ntmps109
 go_wp2_with fail
 refine(Zay _ _).mono ?_;rintro e w' ⟨rfl,rfl⟩;go_wp2_with fail
 refine(Zbw _ _).mono ?_;rintro e w' ⟨rfl,rfl⟩;rw[HD.out,HA.out,HB.out,HI.out];go_wp2_with fail
 refine(Zag n 21 2097152 _ _ _ (by go_simp) (by go_simp) (by go_simp) h0 h1 (by omega)).mono ?_;rintro e w' ⟨rfl,rfl⟩;go_wp2_with fail
 refine(Zag n 16 65536 _ _ _ (by go_simp) (by go_simp) (by go_simp) h0 h1 (by omega)).mono ?_;rintro e w' ⟨rfl,rfl⟩;go_wp2_with fail
 refine(Zag n 11 2048 _ _ _ (by go_simp) (by go_simp) (by go_simp) h0 h1 (by omega)).mono ?_;rintro e w' ⟨rfl,rfl⟩;go_wp2_with fail
 go_region
 go_wp2_with fail
 refine(Zai _ _).mono ?_;rintro e w' ⟨rfl,rfl⟩;rw[HL.out];go_wp2_with fail
 refine(Zq _ _ _ _ _ _).mono ?_;rintro e w' ⟨rfl,hb⟩;rw[<- Hr.out];have hb0:Below w.heap.size w w':=Ybf ((((((Yh _ _).alloc (Yb _) _).alloc (by simp) _).alloc (by simp;omega) _).alloc (by simp;omega) _).drew) (hb.mono (by simp;omega));obtain⟨hc1,hc2⟩:=Zcr hb;have hz:=hb.size;clear hb;simp at hz;have Hb:=Ya hb0;clear hb0;have g0:w.heap.size<w'.heap.size:=by omega
 have g1:w.heap.size+1<w'.heap.size:=by omega
 rcases Zbg n with⟨e1,e2,e3,e4⟩|⟨e1,e2,e3,e4⟩|⟨e1,e3,e4⟩
 .rw[e1,e2]
  have hne:(n != n)=false:=by simp
  have E3:=Ya e3;have E4:=Ya e4;clear e1 e2 e3 e4;go_wp2_with fail
  refine bodyPost_ret (v:=.tuple #[.agg #[.int .i64 (n/67108864),.int .i64 (n/2097152%32),.int .i64 (n/65536%32),.int .i64 (n/2048%32),.int .i64 (0)],.int .i64 0]) (by simp[results,Tryz.results109,go_sem,hc1,g0,g1]) rfl ⟨?_,?_⟩
  .rw[E3.out,E4.out,Hr.out]
  .exact Zf Hb.out (Y2 _) _ _ _ _ _
 .rw[e1]
  generalize S.wordOf (S.raw n)=wd at *;have hne:(wd != n)=true:=by rw[bne_iff_ne];exact e2
  have E3:=Ya e3;have E4:=Ya e4;clear e1 e2 e3 e4;go_wp2_with fail
  refine bodyPost_ret (v:=.tuple #[.agg #[.int .i64 0,.int .i64 0,.int .i64 0,.int .i64 0,.int .i64 0],.int .i64 11]) (by simp[results,Tryz.results109,go_sem,hc1,g0,g1]) rfl ⟨?_,?_⟩
  .rw[E3.out,E4.out]
  .exact Zf Hb.out (Y2 _) _ _ _ _ _
 .rw[e1]
  have E3:=Ya e3;have E4:=Ya e4;clear e1 e3 e4;go_wp2_with fail
  refine bodyPost_ret (v:=.tuple #[.agg #[.int .i64 0,.int .i64 0,.int .i64 0,.int .i64 0,.int .i64 0],.int .i64 11]) (by simp[results,Tryz.results109,go_sem,hc1,g0,g1]) rfl ⟨?_,?_⟩
  .rw[E3.out,E4.out]
  .exact Zf Hb.out (Y2 _) _ _ _ _ _
theorem Zls (n:Int)(w:World)(h0:0<=n)(h1:n<=4294967295)(hS:S.form (n/67108864)=2)(hl:¬S.least (n/67108864)<0) :
 Calls Tryz.prog 109 #[.int .u32 n] w (Zc6 n w):=by
 have hmf:=Y_f
 have hd:S.hasD (S.form (n/67108864))=true:=by rw[hS];rfl
 have ha:S.hasA (S.form (n/67108864))=true:=by rw[hS];rfl
 have hb:S.hasB (S.form (n/67108864))=false:=by rw[hS];rfl
 have hr:S.raw n=⟨n/67108864,n/2097152%32,n/65536%32,0,n%65536⟩:=by
  simp only[S.raw,S.opOf,S.rawD,S.rawA,S.rawB,S.rawI,hd,ha,hb];simp[hS,hl]
 have Hr:=Ya hr;have HD:=Ya hd;have HA:=Ya ha;have HB:=Ya hb;have HI:=Ya (show S.bitsOf (S.form (n/67108864))=16 by rw[hS];rfl);have HL:=Ya (show decide (S.least (n/67108864)<0)=false by simpa using hl);clear hS hd ha hb hr hl;have hmask:=Z0 16 n 65536 65535 rfl rfl (by omega) h0 (by omega);have m0:0<=n%65536:=by omega
 have m1:n%65536<=65535:=by omega
 go_enter Tryz.func109,Tryz.ntmps109
 go_wp2_with fail
 refine(Zay _ _).mono ?_;rintro e w' ⟨rfl,rfl⟩;go_wp2_with fail
 refine(Zbw _ _).mono ?_;rintro e w' ⟨rfl,rfl⟩;rw[HD.out,HA.out,HB.out,HI.out];go_wp2_with fail
 refine(Zag n 21 2097152 _ _ _ (by go_simp) (by go_simp) (by go_simp) h0 h1 (by omega)).mono ?_;rintro e w' ⟨rfl,rfl⟩;go_wp2_with fail
 refine(Zag n 16 65536 _ _ _ (by go_simp) (by go_simp) (by go_simp) h0 h1 (by omega)).mono ?_;rintro e w' ⟨rfl,rfl⟩;go_wp2_with fail
 refine(Zby _ _ _).mono ?_;rintro e w' ⟨rfl,rfl⟩;go_wp2_with fail
 go_region
 go_wp2_with fail
 refine(Zai _ _).mono ?_;rintro e w' ⟨rfl,rfl⟩;rw[HL.out];go_wp2_with fail
 refine(Zq _ _ _ _ _ _).mono ?_;rintro e w' ⟨rfl,hb⟩;rw[<- Hr.out];have hb0:Below w.heap.size w w':=Ybf ((((((Yh _ _).alloc (Yb _) _).alloc (by simp) _).alloc (by simp;omega) _).alloc (by simp;omega) _).drew) (hb.mono (by simp;omega));obtain⟨hc1,hc2⟩:=Zcr hb;have hz:=hb.size;clear hb;simp at hz;have Hb:=Ya hb0;clear hb0;have g0:w.heap.size<w'.heap.size:=by omega
 have g1:w.heap.size+1<w'.heap.size:=by omega
 rcases Zbg n with⟨e1,e2,e3,e4⟩|⟨e1,e2,e3,e4⟩|⟨e1,e3,e4⟩
 .rw[e1,e2]
  have hne:(n != n)=false:=by simp
  have E3:=Ya e3;have E4:=Ya e4;clear e1 e2 e3 e4;go_wp2_with fail
  refine bodyPost_ret (v:=.tuple #[.agg #[.int .i64 (n/67108864),.int .i64 (n/2097152%32),.int .i64 (n/65536%32),.int .i64 (0),.int .i64 (n%65536)],.int .i64 0]) (by simp[results,Tryz.results109,go_sem,hc1,g0,g1]) rfl ⟨?_,?_⟩
  .rw[E3.out,E4.out,Hr.out]
  .exact Zf Hb.out (Y2 _) _ _ _ _ _
 .rw[e1]
  generalize S.wordOf (S.raw n)=wd at *;have hne:(wd != n)=true:=by rw[bne_iff_ne];exact e2
  have E3:=Ya e3;have E4:=Ya e4;clear e1 e2 e3 e4;go_wp2_with fail
  refine bodyPost_ret (v:=.tuple #[.agg #[.int .i64 0,.int .i64 0,.int .i64 0,.int .i64 0,.int .i64 0],.int .i64 11]) (by simp[results,Tryz.results109,go_sem,hc1,g0,g1]) rfl ⟨?_,?_⟩
  .rw[E3.out,E4.out]
  .exact Zf Hb.out (Y2 _) _ _ _ _ _
 .rw[e1]
  have E3:=Ya e3;have E4:=Ya e4;clear e1 e3 e4;go_wp2_with fail
  refine bodyPost_ret (v:=.tuple #[.agg #[.int .i64 0,.int .i64 0,.int .i64 0,.int .i64 0,.int .i64 0],.int .i64 11]) (by simp[results,Tryz.results109,go_sem,hc1,g0,g1]) rfl ⟨?_,?_⟩
  .rw[E3.out,E4.out]
  .exact Zf Hb.out (Y2 _) _ _ _ _ _
theorem Zlt (n:Int)(w:World)(h0:0<=n)(h1:n<=4294967295)(hS:S.form (n/67108864)=2)(hl:S.least (n/67108864)<0)(hm:n%65536<32768) :
 Calls Tryz.prog 109 #[.int .u32 n] w (Zc6 n w):=by
 have hmf:=Y_f
 have hd:S.hasD (S.form (n/67108864))=true:=by rw[hS];rfl
 have ha:S.hasA (S.form (n/67108864))=true:=by rw[hS];rfl
 have hb:S.hasB (S.form (n/67108864))=false:=by rw[hS];rfl
 have hr:S.raw n=⟨n/67108864,n/2097152%32,n/65536%32,0,n%65536⟩:=by
  simp only[S.raw,S.opOf,S.rawD,S.rawA,S.rawB,S.rawI,hd,ha,hb];simp[hS,hl,hm]
  try omega
 have Hr:=Ya hr;have HD:=Ya hd;have HA:=Ya ha;have HB:=Ya hb;have HI:=Ya (show S.bitsOf (S.form (n/67108864))=16 by rw[hS];rfl);have HL:=Ya (show decide (S.least (n/67108864)<0)=true by simpa using hl);clear hS hd ha hb hr hl;have hmask:=Z0 16 n 65536 65535 rfl rfl (by omega) h0 (by omega);have m0:0<=n%65536:=by omega
 have m1:n%65536<=65535:=by omega
 have hs:(n%65536/32768 != 0)=false:=by simp;omega
 go_enter Tryz.func109,Tryz.ntmps109
 go_wp2_with fail
 refine(Zay _ _).mono ?_;rintro e w' ⟨rfl,rfl⟩;go_wp2_with fail
 refine(Zbw _ _).mono ?_;rintro e w' ⟨rfl,rfl⟩;rw[HD.out,HA.out,HB.out,HI.out];go_wp2_with fail
 refine(Zag n 21 2097152 _ _ _ (by go_simp) (by go_simp) (by go_simp) h0 h1 (by omega)).mono ?_;rintro e w' ⟨rfl,rfl⟩;go_wp2_with fail
 refine(Zag n 16 65536 _ _ _ (by go_simp) (by go_simp) (by go_simp) h0 h1 (by omega)).mono ?_;rintro e w' ⟨rfl,rfl⟩;go_wp2_with fail
 refine(Zby _ _ _).mono ?_;rintro e w' ⟨rfl,rfl⟩;go_wp2_with fail
 go_region
 go_wp2_with fail
 refine(Zai _ _).mono ?_;rintro e w' ⟨rfl,rfl⟩;rw[HL.out];go_wp2_with fail
 refine(Zq _ _ _ _ _ _).mono ?_;rintro e w' ⟨rfl,hb⟩;rw[<- Hr.out];have hb0:Below w.heap.size w w':=Ybf ((((((Yh _ _).alloc (Yb _) _).alloc (by simp) _).alloc (by simp;omega) _).alloc (by simp;omega) _).drew) (hb.mono (by simp;omega));obtain⟨hc1,hc2⟩:=Zcr hb;have hz:=hb.size;clear hb;simp at hz;have Hb:=Ya hb0;clear hb0;have g0:w.heap.size<w'.heap.size:=by omega
 have g1:w.heap.size+1<w'.heap.size:=by omega
 rcases Zbg n with⟨e1,e2,e3,e4⟩|⟨e1,e2,e3,e4⟩|⟨e1,e3,e4⟩
 .rw[e1,e2]
  have hne:(n != n)=false:=by simp
  have E3:=Ya e3;have E4:=Ya e4;clear e1 e2 e3 e4;go_wp2_with fail
  refine bodyPost_ret (v:=.tuple #[.agg #[.int .i64 (n/67108864),.int .i64 (n/2097152%32),.int .i64 (n/65536%32),.int .i64 (0),.int .i64 (n%65536)],.int .i64 0]) (by simp[results,Tryz.results109,go_sem,hc1,g0,g1]) rfl ⟨?_,?_⟩
  .rw[E3.out,E4.out,Hr.out]
  .exact Zf Hb.out (Y2 _) _ _ _ _ _
 .rw[e1]
  generalize S.wordOf (S.raw n)=wd at *;have hne:(wd != n)=true:=by rw[bne_iff_ne];exact e2
  have E3:=Ya e3;have E4:=Ya e4;clear e1 e2 e3 e4;go_wp2_with fail
  refine bodyPost_ret (v:=.tuple #[.agg #[.int .i64 0,.int .i64 0,.int .i64 0,.int .i64 0,.int .i64 0],.int .i64 11]) (by simp[results,Tryz.results109,go_sem,hc1,g0,g1]) rfl ⟨?_,?_⟩
  .rw[E3.out,E4.out]
  .exact Zf Hb.out (Y2 _) _ _ _ _ _
 .rw[e1]
  have E3:=Ya e3;have E4:=Ya e4;clear e1 e3 e4;go_wp2_with fail
  refine bodyPost_ret (v:=.tuple #[.agg #[.int .i64 0,.int .i64 0,.int .i64 0,.int .i64 0,.int .i64 0],.int .i64 11]) (by simp[results,Tryz.results109,go_sem,hc1,g0,g1]) rfl ⟨?_,?_⟩
  .rw[E3.out,E4.out]
  .exact Zf Hb.out (Y2 _) _ _ _ _ _
theorem Zlu (n:Int)(w:World)(h0:0<=n)(h1:n<=4294967295)(hS:S.form (n/67108864)=2)(hl:S.least (n/67108864)<0)(hm:32768<=n%65536) :
 Calls Tryz.prog 109 #[.int .u32 n] w (Zc6 n w):=by
 have hmf:=Y_f
 have hd:S.hasD (S.form (n/67108864))=true:=by rw[hS];rfl
 have ha:S.hasA (S.form (n/67108864))=true:=by rw[hS];rfl
 have hb:S.hasB (S.form (n/67108864))=false:=by rw[hS];rfl
 have hr:S.raw n=⟨n/67108864,n/2097152%32,n/65536%32,0,n%65536-65536⟩:=by
  simp only[S.raw,S.opOf,S.rawD,S.rawA,S.rawB,S.rawI,hd,ha,hb];simp[hS,hl,hm]
 have Hr:=Ya hr;have HD:=Ya hd;have HA:=Ya ha;have HB:=Ya hb;have HI:=Ya (show S.bitsOf (S.form (n/67108864))=16 by rw[hS];rfl);have HL:=Ya (show decide (S.least (n/67108864)<0)=true by simpa using hl);clear hS hd ha hb hr hl;have hmask:=Z0 16 n 65536 65535 rfl rfl (by omega) h0 (by omega);have m0:0<=n%65536:=by omega
 have m1:n%65536<=65535:=by omega
 have hs:(n%65536/32768 != 0)=true:=by rw[bne_iff_ne];omega
 go_enter Tryz.func109,Tryz.ntmps109
 go_wp2_with fail
 refine(Zay _ _).mono ?_;rintro e w' ⟨rfl,rfl⟩;go_wp2_with fail
 refine(Zbw _ _).mono ?_;rintro e w' ⟨rfl,rfl⟩;rw[HD.out,HA.out,HB.out,HI.out];go_wp2_with fail
 refine(Zag n 21 2097152 _ _ _ (by go_simp) (by go_simp) (by go_simp) h0 h1 (by omega)).mono ?_;rintro e w' ⟨rfl,rfl⟩;go_wp2_with fail
 refine(Zag n 16 65536 _ _ _ (by go_simp) (by go_simp) (by go_simp) h0 h1 (by omega)).mono ?_;rintro e w' ⟨rfl,rfl⟩;go_wp2_with fail
 refine(Zby _ _ _).mono ?_;rintro e w' ⟨rfl,rfl⟩;go_wp2_with fail
 go_region
 go_wp2_with fail
 refine(Zai _ _).mono ?_;rintro e w' ⟨rfl,rfl⟩;rw[HL.out];go_wp2_with fail
 go_region
 go_wp2_with fail
 refine(Zq _ _ _ _ _ _).mono ?_;rintro e w' ⟨rfl,hb⟩;rw[<- Hr.out];have hb0:Below w.heap.size w w':=Ybf ((((((Yh _ _).alloc (Yb _) _).alloc (by simp) _).alloc (by simp;omega) _).alloc (by simp;omega) _).drew.drew) (hb.mono (by simp;omega));obtain⟨hc1,hc2⟩:=Zcr hb;have hz:=hb.size;clear hb;simp at hz;have Hb:=Ya hb0;clear hb0;have g0:w.heap.size<w'.heap.size:=by omega
 have g1:w.heap.size+1<w'.heap.size:=by omega
 rcases Zbg n with⟨e1,e2,e3,e4⟩|⟨e1,e2,e3,e4⟩|⟨e1,e3,e4⟩
 .rw[e1,e2]
  have hne:(n != n)=false:=by simp
  have E3:=Ya e3;have E4:=Ya e4;clear e1 e2 e3 e4;go_wp2_with fail
  refine bodyPost_ret (v:=.tuple #[.agg #[.int .i64 (n/67108864),.int .i64 (n/2097152%32),.int .i64 (n/65536%32),.int .i64 (0),.int .i64 (n%65536-65536)],.int .i64 0]) (by simp[results,Tryz.results109,go_sem,hc1,g0,g1]) rfl ⟨?_,?_⟩
  .rw[E3.out,E4.out,Hr.out]
  .exact Zf Hb.out (Y2 _) _ _ _ _ _
 .rw[e1]
  generalize S.wordOf (S.raw n)=wd at *;have hne:(wd != n)=true:=by rw[bne_iff_ne];exact e2
  have E3:=Ya e3;have E4:=Ya e4;clear e1 e2 e3 e4;go_wp2_with fail
  refine bodyPost_ret (v:=.tuple #[.agg #[.int .i64 0,.int .i64 0,.int .i64 0,.int .i64 0,.int .i64 0],.int .i64 11]) (by simp[results,Tryz.results109,go_sem,hc1,g0,g1]) rfl ⟨?_,?_⟩
  .rw[E3.out,E4.out]
  .exact Zf Hb.out (Y2 _) _ _ _ _ _
 .rw[e1]
  have E3:=Ya e3;have E4:=Ya e4;clear e1 e3 e4;go_wp2_with fail
  refine bodyPost_ret (v:=.tuple #[.agg #[.int .i64 0,.int .i64 0,.int .i64 0,.int .i64 0,.int .i64 0],.int .i64 11]) (by simp[results,Tryz.results109,go_sem,hc1,g0,g1]) rfl ⟨?_,?_⟩
  .rw[E3.out,E4.out]
  .exact Zf Hb.out (Y2 _) _ _ _ _ _
theorem Znm (n:Int)(w:World)(h0:0<=n)(h1:n<=4294967295)(hS:S.form (n/67108864)=3) :
 Calls Tryz.prog 109 #[.int .u32 n] w (Zc6 n w):=by
 have hmf:=Y_f
 have hl:¬S.least (n/67108864)<0:=by
  have e:=Zak (n/67108864);unfold S.least;grind
 have hd:S.hasD (S.form (n/67108864))=true:=by rw[hS];rfl
 have ha:S.hasA (S.form (n/67108864))=false:=by rw[hS];rfl
 have hb:S.hasB (S.form (n/67108864))=false:=by rw[hS];rfl
 have hr:S.raw n=⟨n/67108864,n/2097152%32,0,0,n%65536⟩:=by
  simp only[S.raw,S.opOf,S.rawD,S.rawA,S.rawB,S.rawI,hd,ha,hb];simp[hS,hl]
 have Hr:=Ya hr;have HD:=Ya hd;have HA:=Ya ha;have HB:=Ya hb;have HI:=Ya (show S.bitsOf (S.form (n/67108864))=16 by rw[hS];rfl);have HL:=Ya (show decide (S.least (n/67108864)<0)=false by simpa using hl);clear hS hd ha hb hr hl;have hmask:=Z0 16 n 65536 65535 rfl rfl (by omega) h0 (by omega);have m0:0<=n%65536:=by omega
 have m1:n%65536<=65535:=by omega
 go_enter Tryz.func109,Tryz.ntmps109
 go_wp2_with fail
 refine(Zay _ _).mono ?_;rintro e w' ⟨rfl,rfl⟩;go_wp2_with fail
 refine(Zbw _ _).mono ?_;rintro e w' ⟨rfl,rfl⟩;rw[HD.out,HA.out,HB.out,HI.out];go_wp2_with fail
 refine(Zag n 21 2097152 _ _ _ (by go_simp) (by go_simp) (by go_simp) h0 h1 (by omega)).mono ?_;rintro e w' ⟨rfl,rfl⟩;go_wp2_with fail
 refine(Zby _ _ _).mono ?_;rintro e w' ⟨rfl,rfl⟩;go_wp2_with fail
 refine(Zby _ _ _).mono ?_;rintro e w' ⟨rfl,rfl⟩;go_wp2_with fail
 go_region
 go_wp2_with fail
 refine(Zai _ _).mono ?_;rintro e w' ⟨rfl,rfl⟩;rw[HL.out];go_wp2_with fail
 refine(Zq _ _ _ _ _ _).mono ?_;rintro e w' ⟨rfl,hb⟩;rw[<- Hr.out];have hb0:Below w.heap.size w w':=Ybf ((((((Yh _ _).alloc (Yb _) _).alloc (by simp) _).alloc (by simp;omega) _).alloc (by simp;omega) _).drew) (hb.mono (by simp;omega));obtain⟨hc1,hc2⟩:=Zcr hb;have hz:=hb.size;clear hb;simp at hz;have Hb:=Ya hb0;clear hb0;have g0:w.heap.size<w'.heap.size:=by omega
 have g1:w.heap.size+1<w'.heap.size:=by omega
 rcases Zbg n with⟨e1,e2,e3,e4⟩|⟨e1,e2,e3,e4⟩|⟨e1,e3,e4⟩
 .rw[e1,e2]
  have hne:(n != n)=false:=by simp
  have E3:=Ya e3;have E4:=Ya e4;clear e1 e2 e3 e4;go_wp2_with fail
  refine bodyPost_ret (v:=.tuple #[.agg #[.int .i64 (n/67108864),.int .i64 (n/2097152%32),.int .i64 (0),.int .i64 (0),.int .i64 (n%65536)],.int .i64 0]) (by simp[results,Tryz.results109,go_sem,hc1,g0,g1]) rfl ⟨?_,?_⟩
  .rw[E3.out,E4.out,Hr.out]
  .exact Zf Hb.out (Y2 _) _ _ _ _ _
 .rw[e1]
  generalize S.wordOf (S.raw n)=wd at *;have hne:(wd != n)=true:=by rw[bne_iff_ne];exact e2
  have E3:=Ya e3;have E4:=Ya e4;clear e1 e2 e3 e4;go_wp2_with fail
  refine bodyPost_ret (v:=.tuple #[.agg #[.int .i64 0,.int .i64 0,.int .i64 0,.int .i64 0,.int .i64 0],.int .i64 11]) (by simp[results,Tryz.results109,go_sem,hc1,g0,g1]) rfl ⟨?_,?_⟩
  .rw[E3.out,E4.out]
  .exact Zf Hb.out (Y2 _) _ _ _ _ _
 .rw[e1]
  have E3:=Ya e3;have E4:=Ya e4;clear e1 e3 e4;go_wp2_with fail
  refine bodyPost_ret (v:=.tuple #[.agg #[.int .i64 0,.int .i64 0,.int .i64 0,.int .i64 0,.int .i64 0],.int .i64 11]) (by simp[results,Tryz.results109,go_sem,hc1,g0,g1]) rfl ⟨?_,?_⟩
  .rw[E3.out,E4.out]
  .exact Zf Hb.out (Y2 _) _ _ _ _ _
theorem Zlv (n:Int)(w:World)(h0:0<=n)(h1:n<=4294967295)(hS:S.form (n/67108864)=4)(hm:n%65536<32768) :
 Calls Tryz.prog 109 #[.int .u32 n] w (Zc6 n w):=by
 have hmf:=Y_f
 have hl:S.least (n/67108864)<0:=by
  have e:=Zak (n/67108864);unfold S.least;grind
 have hd:S.hasD (S.form (n/67108864))=false:=by rw[hS];rfl
 have ha:S.hasA (S.form (n/67108864))=true:=by rw[hS];rfl
 have hb:S.hasB (S.form (n/67108864))=true:=by rw[hS];rfl
 have hr:S.raw n=⟨n/67108864,0,n/2097152%32,n/65536%32,n%65536⟩:=by
  simp only[S.raw,S.opOf,S.rawD,S.rawA,S.rawB,S.rawI,hd,ha,hb];simp[hS,hl,hm]
  try omega
 have Hr:=Ya hr;have HD:=Ya hd;have HA:=Ya ha;have HB:=Ya hb;have HI:=Ya (show S.bitsOf (S.form (n/67108864))=16 by rw[hS];rfl);have HL:=Ya (show decide (S.least (n/67108864)<0)=true by simpa using hl);clear hS hd ha hb hr hl;have hmask:=Z0 16 n 65536 65535 rfl rfl (by omega) h0 (by omega);have m0:0<=n%65536:=by omega
 have m1:n%65536<=65535:=by omega
 have hs:(n%65536/32768 != 0)=false:=by simp;omega
 go_enter Tryz.func109,Tryz.ntmps109
 go_wp2_with fail
 refine(Zay _ _).mono ?_;rintro e w' ⟨rfl,rfl⟩;go_wp2_with fail
 refine(Zbw _ _).mono ?_;rintro e w' ⟨rfl,rfl⟩;rw[HD.out,HA.out,HB.out,HI.out];go_wp2_with fail
 refine(Zby _ _ _).mono ?_;rintro e w' ⟨rfl,rfl⟩;go_wp2_with fail
 refine(Zag n 21 2097152 _ _ _ (by go_simp) (by go_simp) (by go_simp) h0 h1 (by omega)).mono ?_;rintro e w' ⟨rfl,rfl⟩;go_wp2_with fail
 refine(Zag n 16 65536 _ _ _ (by go_simp) (by go_simp) (by go_simp) h0 h1 (by omega)).mono ?_;rintro e w' ⟨rfl,rfl⟩;go_wp2_with fail
 go_region
 go_wp2_with fail
 refine(Zai _ _).mono ?_;rintro e w' ⟨rfl,rfl⟩;rw[HL.out];go_wp2_with fail
 refine(Zq _ _ _ _ _ _).mono ?_;rintro e w' ⟨rfl,hb⟩;rw[<- Hr.out];have hb0:Below w.heap.size w w':=Ybf ((((((Yh _ _).alloc (Yb _) _).alloc (by simp) _).alloc (by simp;omega) _).alloc (by simp;omega) _).drew) (hb.mono (by simp;omega));obtain⟨hc1,hc2⟩:=Zcr hb;have hz:=hb.size;clear hb;simp at hz;have Hb:=Ya hb0;clear hb0;have g0:w.heap.size<w'.heap.size:=by omega
 have g1:w.heap.size+1<w'.heap.size:=by omega
 rcases Zbg n with⟨e1,e2,e3,e4⟩|⟨e1,e2,e3,e4⟩|⟨e1,e3,e4⟩
 .rw[e1,e2]
  have hne:(n != n)=false:=by simp
  have E3:=Ya e3;have E4:=Ya e4;clear e1 e2 e3 e4;go_wp2_with fail
  refine bodyPost_ret (v:=.tuple #[.agg #[.int .i64 (n/67108864),.int .i64 (0),.int .i64 (n/2097152%32),.int .i64 (n/65536%32),.int .i64 (n%65536)],.int .i64 0]) (by simp[results,Tryz.results109,go_sem,hc1,g0,g1]) rfl ⟨?_,?_⟩
  .rw[E3.out,E4.out,Hr.out]
  .exact Zf Hb.out (Y2 _) _ _ _ _ _
 .rw[e1]
  generalize S.wordOf (S.raw n)=wd at *;have hne:(wd != n)=true:=by rw[bne_iff_ne];exact e2
  have E3:=Ya e3;have E4:=Ya e4;clear e1 e2 e3 e4;go_wp2_with fail
  refine bodyPost_ret (v:=.tuple #[.agg #[.int .i64 0,.int .i64 0,.int .i64 0,.int .i64 0,.int .i64 0],.int .i64 11]) (by simp[results,Tryz.results109,go_sem,hc1,g0,g1]) rfl ⟨?_,?_⟩
  .rw[E3.out,E4.out]
  .exact Zf Hb.out (Y2 _) _ _ _ _ _
 .rw[e1]
  have E3:=Ya e3;have E4:=Ya e4;clear e1 e3 e4;go_wp2_with fail
  refine bodyPost_ret (v:=.tuple #[.agg #[.int .i64 0,.int .i64 0,.int .i64 0,.int .i64 0,.int .i64 0],.int .i64 11]) (by simp[results,Tryz.results109,go_sem,hc1,g0,g1]) rfl ⟨?_,?_⟩
  .rw[E3.out,E4.out]
  .exact Zf Hb.out (Y2 _) _ _ _ _ _
theorem Zlw (n:Int)(w:World)(h0:0<=n)(h1:n<=4294967295)(hS:S.form (n/67108864)=4)(hm:32768<=n%65536) :
 Calls Tryz.prog 109 #[.int .u32 n] w (Zc6 n w):=by
 have hmf:=Y_f
 have hl:S.least (n/67108864)<0:=by
  have e:=Zak (n/67108864);unfold S.least;grind
 have hd:S.hasD (S.form (n/67108864))=false:=by rw[hS];rfl
 have ha:S.hasA (S.form (n/67108864))=true:=by rw[hS];rfl
 have hb:S.hasB (S.form (n/67108864))=true:=by rw[hS];rfl
 have hr:S.raw n=⟨n/67108864,0,n/2097152%32,n/65536%32,n%65536-65536⟩:=by
  simp only[S.raw,S.opOf,S.rawD,S.rawA,S.rawB,S.rawI,hd,ha,hb];simp[hS,hl,hm]
 have Hr:=Ya hr;have HD:=Ya hd;have HA:=Ya ha;have HB:=Ya hb;have HI:=Ya (show S.bitsOf (S.form (n/67108864))=16 by rw[hS];rfl);have HL:=Ya (show decide (S.least (n/67108864)<0)=true by simpa using hl);clear hS hd ha hb hr hl;have hmask:=Z0 16 n 65536 65535 rfl rfl (by omega) h0 (by omega);have m0:0<=n%65536:=by omega
 have m1:n%65536<=65535:=by omega
 have hs:(n%65536/32768 != 0)=true:=by rw[bne_iff_ne];omega
 go_enter Tryz.func109,Tryz.ntmps109
 go_wp2_with fail
 refine(Zay _ _).mono ?_;rintro e w' ⟨rfl,rfl⟩;go_wp2_with fail
 refine(Zbw _ _).mono ?_;rintro e w' ⟨rfl,rfl⟩;rw[HD.out,HA.out,HB.out,HI.out];go_wp2_with fail
 refine(Zby _ _ _).mono ?_;rintro e w' ⟨rfl,rfl⟩;go_wp2_with fail
 refine(Zag n 21 2097152 _ _ _ (by go_simp) (by go_simp) (by go_simp) h0 h1 (by omega)).mono ?_;rintro e w' ⟨rfl,rfl⟩;go_wp2_with fail
 refine(Zag n 16 65536 _ _ _ (by go_simp) (by go_simp) (by go_simp) h0 h1 (by omega)).mono ?_;rintro e w' ⟨rfl,rfl⟩;go_wp2_with fail
 go_region
 go_wp2_with fail
 refine(Zai _ _).mono ?_;rintro e w' ⟨rfl,rfl⟩;rw[HL.out];go_wp2_with fail
 go_region
 go_wp2_with fail
 refine(Zq _ _ _ _ _ _).mono ?_;rintro e w' ⟨rfl,hb⟩;rw[<- Hr.out];have hb0:Below w.heap.size w w':=Ybf ((((((Yh _ _).alloc (Yb _) _).alloc (by simp) _).alloc (by simp;omega) _).alloc (by simp;omega) _).drew.drew) (hb.mono (by simp;omega));obtain⟨hc1,hc2⟩:=Zcr hb;have hz:=hb.size;clear hb;simp at hz;have Hb:=Ya hb0;clear hb0;have g0:w.heap.size<w'.heap.size:=by omega
 have g1:w.heap.size+1<w'.heap.size:=by omega
 rcases Zbg n with⟨e1,e2,e3,e4⟩|⟨e1,e2,e3,e4⟩|⟨e1,e3,e4⟩
 .rw[e1,e2]
  have hne:(n != n)=false:=by simp
  have E3:=Ya e3;have E4:=Ya e4;clear e1 e2 e3 e4;go_wp2_with fail
  refine bodyPost_ret (v:=.tuple #[.agg #[.int .i64 (n/67108864),.int .i64 (0),.int .i64 (n/2097152%32),.int .i64 (n/65536%32),.int .i64 (n%65536-65536)],.int .i64 0]) (by simp[results,Tryz.results109,go_sem,hc1,g0,g1]) rfl ⟨?_,?_⟩
  .rw[E3.out,E4.out,Hr.out]
  .exact Zf Hb.out (Y2 _) _ _ _ _ _
 .rw[e1]
  generalize S.wordOf (S.raw n)=wd at *;have hne:(wd != n)=true:=by rw[bne_iff_ne];exact e2
  have E3:=Ya e3;have E4:=Ya e4;clear e1 e2 e3 e4;go_wp2_with fail
  refine bodyPost_ret (v:=.tuple #[.agg #[.int .i64 0,.int .i64 0,.int .i64 0,.int .i64 0,.int .i64 0],.int .i64 11]) (by simp[results,Tryz.results109,go_sem,hc1,g0,g1]) rfl ⟨?_,?_⟩
  .rw[E3.out,E4.out]
  .exact Zf Hb.out (Y2 _) _ _ _ _ _
 .rw[e1]
  have E3:=Ya e3;have E4:=Ya e4;clear e1 e3 e4;go_wp2_with fail
  refine bodyPost_ret (v:=.tuple #[.agg #[.int .i64 0,.int .i64 0,.int .i64 0,.int .i64 0,.int .i64 0],.int .i64 11]) (by simp[results,Tryz.results109,go_sem,hc1,g0,g1]) rfl ⟨?_,?_⟩
  .rw[E3.out,E4.out]
  .exact Zf Hb.out (Y2 _) _ _ _ _ _
theorem Zlx (n:Int)(w:World)(h0:0<=n)(h1:n<=4294967295)(hS:S.form (n/67108864)=5)(hm:n%2097152<1048576) :
 Calls Tryz.prog 109 #[.int .u32 n] w (Zc6 n w):=by
 have hmf:=Y_f
 have hl:S.least (n/67108864)<0:=by
  have e:=Zak (n/67108864);unfold S.least;grind
 have hd:S.hasD (S.form (n/67108864))=true:=by rw[hS];rfl
 have ha:S.hasA (S.form (n/67108864))=false:=by rw[hS];rfl
 have hb:S.hasB (S.form (n/67108864))=false:=by rw[hS];rfl
 have hr:S.raw n=⟨n/67108864,n/2097152%32,0,0,n%2097152⟩:=by
  simp only[S.raw,S.opOf,S.rawD,S.rawA,S.rawB,S.rawI,hd,ha,hb];simp[hS,hl,hm]
  try omega
 have Hr:=Ya hr;have HD:=Ya hd;have HA:=Ya ha;have HB:=Ya hb;have HI:=Ya (show S.bitsOf (S.form (n/67108864))=21 by rw[hS];rfl);have HL:=Ya (show decide (S.least (n/67108864)<0)=true by simpa using hl);clear hS hd ha hb hr hl;have hmask:=Z0 21 n 2097152 2097151 rfl rfl (by omega) h0 (by omega);have m0:0<=n%2097152:=by omega
 have m1:n%2097152<=2097151:=by omega
 have hs:(n%2097152/1048576 != 0)=false:=by simp;omega
 go_enter Tryz.func109,Tryz.ntmps109
 go_wp2_with fail
 refine(Zay _ _).mono ?_;rintro e w' ⟨rfl,rfl⟩;go_wp2_with fail
 refine(Zbw _ _).mono ?_;rintro e w' ⟨rfl,rfl⟩;rw[HD.out,HA.out,HB.out,HI.out];go_wp2_with fail
 refine(Zag n 21 2097152 _ _ _ (by go_simp) (by go_simp) (by go_simp) h0 h1 (by omega)).mono ?_;rintro e w' ⟨rfl,rfl⟩;go_wp2_with fail
 refine(Zby _ _ _).mono ?_;rintro e w' ⟨rfl,rfl⟩;go_wp2_with fail
 refine(Zby _ _ _).mono ?_;rintro e w' ⟨rfl,rfl⟩;go_wp2_with fail
 go_region
 go_wp2_with fail
 refine(Zai _ _).mono ?_;rintro e w' ⟨rfl,rfl⟩;rw[HL.out];go_wp2_with fail
 refine(Zq _ _ _ _ _ _).mono ?_;rintro e w' ⟨rfl,hb⟩;rw[<- Hr.out];have hb0:Below w.heap.size w w':=Ybf ((((((Yh _ _).alloc (Yb _) _).alloc (by simp) _).alloc (by simp;omega) _).alloc (by simp;omega) _).drew) (hb.mono (by simp;omega));obtain⟨hc1,hc2⟩:=Zcr hb;have hz:=hb.size;clear hb;simp at hz;have Hb:=Ya hb0;clear hb0;have g0:w.heap.size<w'.heap.size:=by omega
 have g1:w.heap.size+1<w'.heap.size:=by omega
 rcases Zbg n with⟨e1,e2,e3,e4⟩|⟨e1,e2,e3,e4⟩|⟨e1,e3,e4⟩
 .rw[e1,e2]
  have hne:(n != n)=false:=by simp
  have E3:=Ya e3;have E4:=Ya e4;clear e1 e2 e3 e4;go_wp2_with fail
  refine bodyPost_ret (v:=.tuple #[.agg #[.int .i64 (n/67108864),.int .i64 (n/2097152%32),.int .i64 (0),.int .i64 (0),.int .i64 (n%2097152)],.int .i64 0]) (by simp[results,Tryz.results109,go_sem,hc1,g0,g1]) rfl ⟨?_,?_⟩
  .rw[E3.out,E4.out,Hr.out]
  .exact Zf Hb.out (Y2 _) _ _ _ _ _
 .rw[e1]
  generalize S.wordOf (S.raw n)=wd at *;have hne:(wd != n)=true:=by rw[bne_iff_ne];exact e2
  have E3:=Ya e3;have E4:=Ya e4;clear e1 e2 e3 e4;go_wp2_with fail
  refine bodyPost_ret (v:=.tuple #[.agg #[.int .i64 0,.int .i64 0,.int .i64 0,.int .i64 0,.int .i64 0],.int .i64 11]) (by simp[results,Tryz.results109,go_sem,hc1,g0,g1]) rfl ⟨?_,?_⟩
  .rw[E3.out,E4.out]
  .exact Zf Hb.out (Y2 _) _ _ _ _ _
 .rw[e1]
  have E3:=Ya e3;have E4:=Ya e4;clear e1 e3 e4;go_wp2_with fail
  refine bodyPost_ret (v:=.tuple #[.agg #[.int .i64 0,.int .i64 0,.int .i64 0,.int .i64 0,.int .i64 0],.int .i64 11]) (by simp[results,Tryz.results109,go_sem,hc1,g0,g1]) rfl ⟨?_,?_⟩
  .rw[E3.out,E4.out]
  .exact Zf Hb.out (Y2 _) _ _ _ _ _
theorem Zly (n:Int)(w:World)(h0:0<=n)(h1:n<=4294967295)(hS:S.form (n/67108864)=5)(hm:1048576<=n%2097152) :
 Calls Tryz.prog 109 #[.int .u32 n] w (Zc6 n w):=by
 have hmf:=Y_f
 have hl:S.least (n/67108864)<0:=by
  have e:=Zak (n/67108864);unfold S.least;grind
 have hd:S.hasD (S.form (n/67108864))=true:=by rw[hS];rfl
 have ha:S.hasA (S.form (n/67108864))=false:=by rw[hS];rfl
 have hb:S.hasB (S.form (n/67108864))=false:=by rw[hS];rfl
 have hr:S.raw n=⟨n/67108864,n/2097152%32,0,0,n%2097152-2097152⟩:=by
  simp only[S.raw,S.opOf,S.rawD,S.rawA,S.rawB,S.rawI,hd,ha,hb];simp[hS,hl,hm]
 have Hr:=Ya hr;have HD:=Ya hd;have HA:=Ya ha;have HB:=Ya hb;have HI:=Ya (show S.bitsOf (S.form (n/67108864))=21 by rw[hS];rfl);have HL:=Ya (show decide (S.least (n/67108864)<0)=true by simpa using hl);clear hS hd ha hb hr hl;have hmask:=Z0 21 n 2097152 2097151 rfl rfl (by omega) h0 (by omega);have m0:0<=n%2097152:=by omega
 have m1:n%2097152<=2097151:=by omega
 have hs:(n%2097152/1048576 != 0)=true:=by rw[bne_iff_ne];omega
 go_enter Tryz.func109,Tryz.ntmps109
 go_wp2_with fail
 refine(Zay _ _).mono ?_;rintro e w' ⟨rfl,rfl⟩;go_wp2_with fail
 refine(Zbw _ _).mono ?_;rintro e w' ⟨rfl,rfl⟩;rw[HD.out,HA.out,HB.out,HI.out];go_wp2_with fail
 refine(Zag n 21 2097152 _ _ _ (by go_simp) (by go_simp) (by go_simp) h0 h1 (by omega)).mono ?_;rintro e w' ⟨rfl,rfl⟩;go_wp2_with fail
 refine(Zby _ _ _).mono ?_;rintro e w' ⟨rfl,rfl⟩;go_wp2_with fail
 refine(Zby _ _ _).mono ?_;rintro e w' ⟨rfl,rfl⟩;go_wp2_with fail
 go_region
 go_wp2_with fail
 refine(Zai _ _).mono ?_;rintro e w' ⟨rfl,rfl⟩;rw[HL.out];go_wp2_with fail
 go_region
 go_wp2_with fail
 refine(Zq _ _ _ _ _ _).mono ?_;rintro e w' ⟨rfl,hb⟩;rw[<- Hr.out];have hb0:Below w.heap.size w w':=Ybf ((((((Yh _ _).alloc (Yb _) _).alloc (by simp) _).alloc (by simp;omega) _).alloc (by simp;omega) _).drew.drew) (hb.mono (by simp;omega));obtain⟨hc1,hc2⟩:=Zcr hb;have hz:=hb.size;clear hb;simp at hz;have Hb:=Ya hb0;clear hb0;have g0:w.heap.size<w'.heap.size:=by omega
 have g1:w.heap.size+1<w'.heap.size:=by omega
 rcases Zbg n with⟨e1,e2,e3,e4⟩|⟨e1,e2,e3,e4⟩|⟨e1,e3,e4⟩
 .rw[e1,e2]
  have hne:(n != n)=false:=by simp
  have E3:=Ya e3;have E4:=Ya e4;clear e1 e2 e3 e4;go_wp2_with fail
  refine bodyPost_ret (v:=.tuple #[.agg #[.int .i64 (n/67108864),.int .i64 (n/2097152%32),.int .i64 (0),.int .i64 (0),.int .i64 (n%2097152-2097152)],.int .i64 0]) (by simp[results,Tryz.results109,go_sem,hc1,g0,g1]) rfl ⟨?_,?_⟩
  .rw[E3.out,E4.out,Hr.out]
  .exact Zf Hb.out (Y2 _) _ _ _ _ _
 .rw[e1]
  generalize S.wordOf (S.raw n)=wd at *;have hne:(wd != n)=true:=by rw[bne_iff_ne];exact e2
  have E3:=Ya e3;have E4:=Ya e4;clear e1 e2 e3 e4;go_wp2_with fail
  refine bodyPost_ret (v:=.tuple #[.agg #[.int .i64 0,.int .i64 0,.int .i64 0,.int .i64 0,.int .i64 0],.int .i64 11]) (by simp[results,Tryz.results109,go_sem,hc1,g0,g1]) rfl ⟨?_,?_⟩
  .rw[E3.out,E4.out]
  .exact Zf Hb.out (Y2 _) _ _ _ _ _
 .rw[e1]
  have E3:=Ya e3;have E4:=Ya e4;clear e1 e3 e4;go_wp2_with fail
  refine bodyPost_ret (v:=.tuple #[.agg #[.int .i64 0,.int .i64 0,.int .i64 0,.int .i64 0,.int .i64 0],.int .i64 11]) (by simp[results,Tryz.results109,go_sem,hc1,g0,g1]) rfl ⟨?_,?_⟩
  .rw[E3.out,E4.out]
  .exact Zf Hb.out (Y2 _) _ _ _ _ _
theorem Znn (n:Int)(w:World)(h0:0<=n)(h1:n<=4294967295)(hS:S.form (n/67108864)=6) :
 Calls Tryz.prog 109 #[.int .u32 n] w (Zc6 n w):=by
 have hmf:=Y_f
 have hl:¬S.least (n/67108864)<0:=by
  have e:=Zak (n/67108864);unfold S.least;grind
 have hd:S.hasD (S.form (n/67108864))=true:=by rw[hS];rfl
 have ha:S.hasA (S.form (n/67108864))=false:=by rw[hS];rfl
 have hb:S.hasB (S.form (n/67108864))=false:=by rw[hS];rfl
 have hr:S.raw n=⟨n/67108864,n/2097152%32,0,0,0⟩:=by
  simp only[S.raw,S.opOf,S.rawD,S.rawA,S.rawB,S.rawI,hd,ha,hb];simp[hS,hl]
 have Hr:=Ya hr;have HD:=Ya hd;have HA:=Ya ha;have HB:=Ya hb;have HI:=Ya (show S.bitsOf (S.form (n/67108864))=0 by rw[hS];rfl);have HL:=Ya (show decide (S.least (n/67108864)<0)=false by simpa using hl);clear hS hd ha hb hr hl;have hmask:=Zf4 n;go_enter Tryz.func109,Tryz.ntmps109
 go_wp2_with fail
 refine(Zay _ _).mono ?_;rintro e w' ⟨rfl,rfl⟩;go_wp2_with fail
 refine(Zbw _ _).mono ?_;rintro e w' ⟨rfl,rfl⟩;rw[HD.out,HA.out,HB.out,HI.out];go_wp2_with fail
 refine(Zag n 21 2097152 _ _ _ (by go_simp) (by go_simp) (by go_simp) h0 h1 (by omega)).mono ?_;rintro e w' ⟨rfl,rfl⟩;go_wp2_with fail
 refine(Zby _ _ _).mono ?_;rintro e w' ⟨rfl,rfl⟩;go_wp2_with fail
 refine(Zby _ _ _).mono ?_;rintro e w' ⟨rfl,rfl⟩;go_wp2_with fail
 go_region
 go_wp2_with fail
 refine(Zai _ _).mono ?_;rintro e w' ⟨rfl,rfl⟩;rw[HL.out];go_wp2_with fail
 refine(Zq _ _ _ _ _ _).mono ?_;rintro e w' ⟨rfl,hb⟩;rw[<- Hr.out];have hb0:Below w.heap.size w w':=Ybf ((((((Yh _ _).alloc (Yb _) _).alloc (by simp) _).alloc (by simp;omega) _).alloc (by simp;omega) _).drew) (hb.mono (by simp;omega));obtain⟨hc1,hc2⟩:=Zcr hb;have hz:=hb.size;clear hb;simp at hz;have Hb:=Ya hb0;clear hb0;have g0:w.heap.size<w'.heap.size:=by omega
 have g1:w.heap.size+1<w'.heap.size:=by omega
 rcases Zbg n with⟨e1,e2,e3,e4⟩|⟨e1,e2,e3,e4⟩|⟨e1,e3,e4⟩
 .rw[e1,e2]
  have hne:(n != n)=false:=by simp
  have E3:=Ya e3;have E4:=Ya e4;clear e1 e2 e3 e4;go_wp2_with fail
  refine bodyPost_ret (v:=.tuple #[.agg #[.int .i64 (n/67108864),.int .i64 (n/2097152%32),.int .i64 (0),.int .i64 (0),.int .i64 (0)],.int .i64 0]) (by simp[results,Tryz.results109,go_sem,hc1,g0,g1]) rfl ⟨?_,?_⟩
  .rw[E3.out,E4.out,Hr.out]
  .exact Zf Hb.out (Y2 _) _ _ _ _ _
 .rw[e1]
  generalize S.wordOf (S.raw n)=wd at *;have hne:(wd != n)=true:=by rw[bne_iff_ne];exact e2
  have E3:=Ya e3;have E4:=Ya e4;clear e1 e2 e3 e4;go_wp2_with fail
  refine bodyPost_ret (v:=.tuple #[.agg #[.int .i64 0,.int .i64 0,.int .i64 0,.int .i64 0,.int .i64 0],.int .i64 11]) (by simp[results,Tryz.results109,go_sem,hc1,g0,g1]) rfl ⟨?_,?_⟩
  .rw[E3.out,E4.out]
  .exact Zf Hb.out (Y2 _) _ _ _ _ _
 .rw[e1]
  have E3:=Ya e3;have E4:=Ya e4;clear e1 e3 e4;go_wp2_with fail
  refine bodyPost_ret (v:=.tuple #[.agg #[.int .i64 0,.int .i64 0,.int .i64 0,.int .i64 0,.int .i64 0],.int .i64 11]) (by simp[results,Tryz.results109,go_sem,hc1,g0,g1]) rfl ⟨?_,?_⟩
  .rw[E3.out,E4.out]
  .exact Zf Hb.out (Y2 _) _ _ _ _ _
theorem Zno (n:Int)(w:World)(h0:0<=n)(h1:n<=4294967295)(hS:S.form (n/67108864)=7) :
 Calls Tryz.prog 109 #[.int .u32 n] w (Zc6 n w):=by
 have hmf:=Y_f
 have hl:¬S.least (n/67108864)<0:=by
  have e:=Zak (n/67108864);unfold S.least;grind
 have hd:S.hasD (S.form (n/67108864))=false:=by rw[hS];rfl
 have ha:S.hasA (S.form (n/67108864))=true:=by rw[hS];rfl
 have hb:S.hasB (S.form (n/67108864))=false:=by rw[hS];rfl
 have hr:S.raw n=⟨n/67108864,0,n/2097152%32,0,0⟩:=by
  simp only[S.raw,S.opOf,S.rawD,S.rawA,S.rawB,S.rawI,hd,ha,hb];simp[hS,hl]
 have Hr:=Ya hr;have HD:=Ya hd;have HA:=Ya ha;have HB:=Ya hb;have HI:=Ya (show S.bitsOf (S.form (n/67108864))=0 by rw[hS];rfl);have HL:=Ya (show decide (S.least (n/67108864)<0)=false by simpa using hl);clear hS hd ha hb hr hl;have hmask:=Zf4 n;go_enter Tryz.func109,Tryz.ntmps109
 go_wp2_with fail
 refine(Zay _ _).mono ?_;rintro e w' ⟨rfl,rfl⟩;go_wp2_with fail
 refine(Zbw _ _).mono ?_;rintro e w' ⟨rfl,rfl⟩;rw[HD.out,HA.out,HB.out,HI.out];go_wp2_with fail
 refine(Zby _ _ _).mono ?_;rintro e w' ⟨rfl,rfl⟩;go_wp2_with fail
 refine(Zag n 21 2097152 _ _ _ (by go_simp) (by go_simp) (by go_simp) h0 h1 (by omega)).mono ?_;rintro e w' ⟨rfl,rfl⟩;go_wp2_with fail
 refine(Zby _ _ _).mono ?_;rintro e w' ⟨rfl,rfl⟩;go_wp2_with fail
 go_region
 go_wp2_with fail
 refine(Zai _ _).mono ?_;rintro e w' ⟨rfl,rfl⟩;rw[HL.out];go_wp2_with fail
 refine(Zq _ _ _ _ _ _).mono ?_;rintro e w' ⟨rfl,hb⟩;rw[<- Hr.out];have hb0:Below w.heap.size w w':=Ybf ((((((Yh _ _).alloc (Yb _) _).alloc (by simp) _).alloc (by simp;omega) _).alloc (by simp;omega) _).drew) (hb.mono (by simp;omega));obtain⟨hc1,hc2⟩:=Zcr hb;have hz:=hb.size;clear hb;simp at hz;have Hb:=Ya hb0;clear hb0;have g0:w.heap.size<w'.heap.size:=by omega
 have g1:w.heap.size+1<w'.heap.size:=by omega
 rcases Zbg n with⟨e1,e2,e3,e4⟩|⟨e1,e2,e3,e4⟩|⟨e1,e3,e4⟩
 .rw[e1,e2]
  have hne:(n != n)=false:=by simp
  have E3:=Ya e3;have E4:=Ya e4;clear e1 e2 e3 e4;go_wp2_with fail
  refine bodyPost_ret (v:=.tuple #[.agg #[.int .i64 (n/67108864),.int .i64 (0),.int .i64 (n/2097152%32),.int .i64 (0),.int .i64 (0)],.int .i64 0]) (by simp[results,Tryz.results109,go_sem,hc1,g0,g1]) rfl ⟨?_,?_⟩
  .rw[E3.out,E4.out,Hr.out]
  .exact Zf Hb.out (Y2 _) _ _ _ _ _
 .rw[e1]
  generalize S.wordOf (S.raw n)=wd at *;have hne:(wd != n)=true:=by rw[bne_iff_ne];exact e2
  have E3:=Ya e3;have E4:=Ya e4;clear e1 e2 e3 e4;go_wp2_with fail
  refine bodyPost_ret (v:=.tuple #[.agg #[.int .i64 0,.int .i64 0,.int .i64 0,.int .i64 0,.int .i64 0],.int .i64 11]) (by simp[results,Tryz.results109,go_sem,hc1,g0,g1]) rfl ⟨?_,?_⟩
  .rw[E3.out,E4.out]
  .exact Zf Hb.out (Y2 _) _ _ _ _ _
 .rw[e1]
  have E3:=Ya e3;have E4:=Ya e4;clear e1 e3 e4;go_wp2_with fail
  refine bodyPost_ret (v:=.tuple #[.agg #[.int .i64 0,.int .i64 0,.int .i64 0,.int .i64 0,.int .i64 0],.int .i64 11]) (by simp[results,Tryz.results109,go_sem,hc1,g0,g1]) rfl ⟨?_,?_⟩
  .rw[E3.out,E4.out]
  .exact Zf Hb.out (Y2 _) _ _ _ _ _
theorem Zsh (n:Int)(w:World)(h0:0<=n)(h1:n<=4294967295) :
 Calls Tryz.prog 109 #[.int .u32 n] w
  λ e w'=>e=.returned (.tuple #[.agg #[.int .i64 (S.dec n).op,.int .i64 (S.dec n).d,.int .i64 (S.dec n).a,.int .i64 (S.dec n).b,.int .i64 (S.dec n).imm],.int .i64 (S.decE n)])/\Below w.heap.size w w':=by
 show Calls Tryz.prog 109 #[.int .u32 n] w (Zc6 n w)
 rcases Zak (n/67108864) with⟨h,_⟩|⟨h,_⟩|⟨h,_⟩|⟨h,_⟩|⟨h,_⟩|⟨h,_⟩|⟨h,_⟩|⟨h,_⟩
 .exact Znk n w h0 h1 h
 .exact Znl n w h0 h1 h
 .by_cases hl:S.least (n/67108864)<0
  .by_cases hm:n%65536<32768
   .exact Zlt n w h0 h1 h hl hm
   .exact Zlu n w h0 h1 h hl (by omega)
  .exact Zls n w h0 h1 h hl
 .exact Znm n w h0 h1 h
 .by_cases hm:n%65536<32768
  .exact Zlv n w h0 h1 h hm
  .exact Zlw n w h0 h1 h (by omega)
 .by_cases hm:n%2097152<1048576
  .exact Zlx n w h0 h1 h hm
  .exact Zly n w h0 h1 h (by omega)
 .exact Znn n w h0 h1 h
 .exact Zno n w h0 h1 h
