/- Parts. -/
import Derived.Test.YtfhiobkkdcdmiaaGreatDoorZR27W
set_option linter.all false
set_option maxHeartbeats 4000000
open Go.Lib renaming hid->Ya,cell_of_heap->Yc
open Nat renaming le_refl->Yb,lt_of_lt_of_le->Yy,le_trans->Y8,zero_le->Yag,le_of_lt->Ya8,add_zero->Ybd
open List renaming getElem?_eq_getElem->Yf,length_cons->Yi,mem_cons->Yz,getElem?_map->Y3,length_map->Yac,take_length->Yaf,take_add_one->Ya4,range->Yca
open Go.RowKit.Below renaming refl->Yh
open Go.IntWalk renaming i64_in->Yk
open Go.Value renaming int->Yr,slice->Ybr
namespace Go.Proofs.YtfhiobkkdcdmiaaGreatDoor
open Go.RowKit
set_option maxRecDepth 100000
section
structure NAt (w:World)(lo b p:Nat)(F:Nat->Prop)(first half after next:Int)(m:S.Mach):Prop where
 blk:w.heap[b]?=some (.cells #[.pointer (some ⟨p,0,none⟩),.int .i64 first,.int .i64 half,.int .i64 after,.int .i64 next] 42 (0,0))
 mach:∃vm vo A c inp rd,MAt w lo p vm vo A c inp rd m/\(∀k,Za2 p vm vo k->F k)/\(∀k o s,A=some ⟨k,o,s⟩->¬F k/\k≠b)
 lowb:lo<=b
 nb:¬F b
 lt:∀k,F k->lo<=k/\k<w.heap.size
section
variable {w w':World}{lo b p:Nat}{F:Nat->Prop}{first half after next:Int}{m m':S.Mach}
theorem NAt.blt (h:NAt w lo b p F first half after next m):b<w.heap.size:=(Array.getElem?_eq_some_iff.1 h.blk).1
theorem NAt.below (h:NAt w lo b p F first half after next m)(hb:Below w.heap.size w w'):NAt w' lo b p F first half after next m:=by
 obtain⟨vm,vo,A,c,inp,rd,k1,k2,k3⟩:=h.mach;have hz:=hb.size;exact⟨(hb.block b h.blt).trans h.blk,⟨vm,vo,A,c,inp,rd,k1.below hb,k2,k3⟩,h.lowb,h.nb,λ k hk=>⟨(h.lt k hk).1,by have:=(h.lt k hk).2;omega⟩⟩
theorem NAt.wrote (h:NAt w lo b p F first half after next m){F':Nat->Prop}(ho:Only F w w')(hF:∀k,k<w.heap.size->F' k->F k)(hlt:∀k,F' k->lo<=k/\k<w'.heap.size)
 (hm:∃vm vo A c inp rd,MAt w' lo p vm vo A c inp rd m'/\(∀k,Za2 p vm vo k->F' k)/\(∀k o s,A=some ⟨k,o,s⟩->¬F' k/\k≠b)):NAt w' lo b p F' first half after next m' :=
 ⟨(ho.block b h.blt h.nb).trans h.blk,hm,h.lowb,λ hk=>h.nb (hF b h.blt hk),hlt⟩
theorem NAt.lolt (h:NAt w lo b p F first half after next m):lo<=w.heap.size:=by
 have:=h.blt;have:=h.lowb;omega
theorem NAt.lobelow (h:NAt w lo b p F first half after next m)(ho:Only F w w'):Below lo w w':=ho.below h.lolt λ k hk=>(h.lt k hk).1
theorem NAt.cells (h:NAt w lo b p F first half after next m):w.cell? ⟨b,0,none⟩=some (.pointer (some ⟨p,0,none⟩))/\w.cell? ⟨b,1,none⟩=some (.int .i64 first)/\w.cell? ⟨b,2,none⟩=some (.int .i64 half)/\w.cell? ⟨b,3,none⟩=some (.int .i64 after)/\w.cell? ⟨b,4,none⟩=some (.int .i64 next) :=
 ⟨by rw[Yc h.blk];rfl,by rw[Yc h.blk];rfl,by rw[Yc h.blk];rfl,by rw[Yc h.blk];rfl,by rw[Yc h.blk];rfl⟩
theorem NAt.ok (h:NAt w lo b p F first half after next m):m.Ok:=by
 obtain⟨vm,vo,A,c,inp,rd,k1,k2,k3⟩:=h.mach;exact k1.ok
theorem NAt.drew (h:NAt w lo b p F first half after next m)(n:Nat):NAt (w.drewN n) lo b p F first half after next m:=h.below (below_drewN (Yh _ _) n)
theorem NAt.onward (h:NAt w lo b p F first half after next m)(v:Int):NAt (w.setCell ⟨b,4,none⟩ (.int .i64 v)) lo b p F first half after v m/\Below lo w (w.setCell ⟨b,4,none⟩ (.int .i64 v)):=by
 obtain⟨vm,vo,A,c,inp,rd,k1,k2,k3⟩:=h.mach;have hs:=(Yh lo w).setCell (p:=⟨b,4,none⟩) h.lowb (.int .i64 v);have hz:(w.setCell ⟨b,4,none⟩ (.int .i64 v)).heap.size=w.heap.size:=by simp
 have ho:∀k,k≠b->(w.setCell ⟨b,4,none⟩ (.int .i64 v)).heap[k]?=w.heap[k]?:=λ k hk=>heap_setCell_other w ⟨b,4,none⟩ k _ hk
 refine⟨⟨?_,⟨vm,vo,A,c,inp,rd,k1.keep (Nat.le_of_eq hz.symm) λ k hk=>ho k ?_,k2,k3⟩,h.lowb,h.nb,λ k hk=>⟨(h.lt k hk).1,by rw[hz];exact(h.lt k hk).2⟩⟩,hs⟩
 .exact heap_setCell_same w b 4 _ _ _ h.blk
 .rintro rfl
  rcases hk with q|⟨o,s,e⟩
  .exact h.nb (k2 _ q)
  .exact(k3 _ o s e).2 rfl
theorem Z4i (i:Int)(h:NAt w lo b p F first half after next m):Calls Tryz.prog 18 #[.pointer (some ⟨p,0,none⟩),.int .i64 i] w λ e w'=>e=.returned (.int .u32 (m.regV i))/\w=w':=by
 obtain⟨vm,vo,A,c,inp,rd,k1,k2,k3⟩:=h.mach;exact Zya i k1
theorem Z54 (i v:Int)(h:NAt w lo b p F first half after next m)(hv:0<=v/\v<=4294967295):Calls Tryz.prog 13 #[.pointer (some ⟨p,0,none⟩),.int .i64 i,.int .u32 v] w λ e w'=>e=.returned (.int .i64 (if 0<=i/\i<32 then 0 else 2))/\NAt w' lo b p F first half after next (m.setV i v)/\Only F w w':=by
 obtain⟨vm,vo,A,c,inp,rd,k1,k2,k3⟩:=h.mach;refine(Zqs i v k1 hv).mono ?_;rintro e w' ⟨rfl,h1,h2⟩;have ho:Only F w w':=h2.weaken λ k _ hk=>k2 k (.inl hk)
 exact⟨rfl,h.wrote ho (λ _ _ hk=>hk) (λ k hk=>⟨(h.lt k hk).1,Yy (h.lt k hk).2 ho.size⟩) ⟨vm,vo,A,c,inp,rd,h1,k2,k3⟩,ho⟩
theorem Z55 (i v:Int)(h:NAt w lo b p F first half after next m)(hv:0<=v/\v<=4294967295):Calls Tryz.prog 12 #[.pointer (some ⟨p,0,none⟩),.int .i64 i,.int .u32 v] w λ e w'=>e=.returned (.int .i64 (if 0<=i/\i<m.mem.length then 0 else 2))/\NAt w' lo b p F first half after next (m.putV i v)/\Only F w w':=by
 obtain⟨vm,vo,A,c,inp,rd,k1,k2,k3⟩:=h.mach;refine(Zqt i v k1 hv).mono ?_;rintro e w' ⟨rfl,h1,h2⟩;have ho:Only F w w':=h2.weaken λ k _ hk=>k2 k hk
 exact⟨rfl,h.wrote ho (λ _ _ hk=>hk) (λ k hk=>⟨(h.lt k hk).1,Yy (h.lt k hk).2 ho.size⟩) ⟨vm,vo,A,c,inp,rd,h1,k2,k3⟩,ho⟩
theorem Zz4 (i v:Int)(h:NAt w lo b p F first half after next m)(hv:0<=v/\v<=4294967295):Calls Tryz.prog 12 #[.pointer (some ⟨p,0,none⟩),.int .i64 i,.int .u32 v] w λ e w'=>∃r,e=.returned (.int .i64 r)/\NAt w' lo b p F first half after next (m.putV i v)/\Only F w w' :=
 (Z55 i v h hv).mono λ _ _ q=>⟨_,q⟩
theorem Zq7 (i v:Int)(h:NAt w lo b p F first half after next m)(hv:0<=v/\v<=4294967295):Calls Tryz.prog 13 #[.pointer (some ⟨p,0,none⟩),.int .i64 i,.int .u32 v] w λ e w'=>∃r,e=.returned (.int .i64 r)/\NAt w' lo b p F first half after next (m.setV i v)/\Only F w w' :=
 (Z54 i v h hv).mono λ _ _ q=>⟨_,q⟩
def Z7g (w:World)(lo b p:Nat)(F:Nat->Prop)(first half after next:Int)(m':S.Mach)(w':World):Prop :=
 ∃F',NAt w' lo b p F' first half after next m'/\Only F w w'/\∀k,k<w.heap.size->F' k->F k
theorem Z56 (fuel:Int)(h:NAt w lo b p F first half after next m)(hol:m.out=[])(hst:m.steps=0)(hf:fuel<=100000000):Calls Tryz.prog 14 #[.pointer (some ⟨p,0,none⟩),.int .i64 fuel] w λ e w'=>e=.returned (.int .i64 (m.steps_ fuel.toNat).state)/\Z7g w lo b p F first half after next (m.steps_ fuel.toNat) w':=by
 obtain⟨vm,vo,A,c,inp,rd,k1,k2,k3⟩:=h.mach;refine(Zyd fuel k1 (by rw[hol];decide) (by rw[hst];decide) hf).mono ?_;rintro e w' ⟨rfl,vo',rd',h1,h2,h3⟩;have ho:Only F w w':=h2.weaken λ k _ hk=>k2 k hk
 have hz:=ho.size;refine⟨rfl,λ k=>Za2 p vm vo' k,h.wrote ho (λ k hk hf=>?_) (λ k hk=>h1.foot_lt hk) ⟨vm,vo',A,c,inp,rd',h1,λ _ hk=>hk,λ k o s e=>⟨λ hk=>?_,(k3 k o s e).2⟩⟩,ho,λ k hk hf=>?_⟩
 .rcases hf with e|e|e
  .exact k2 k (.inl e)
  .exact k2 k (.inr (.inl e))
  .rcases h3 with e2|⟨j,hj,e2⟩
   .exact k2 k (.inr (.inr (e2 ▸ e)))
   .rw[e2] at e;cases e;omega
 .obtain⟨d1,d2,d3⟩:=h1.d1 k o s e
  rcases hk with hk|hk|hk
  .exact d1 hk
  .exact d2 hk
  .exact d3 hk
 .rcases hf with e|e|e
  .exact k2 k (.inl e)
  .exact k2 k (.inr (.inl e))
  .rcases h3 with e2|⟨j,hj,e2⟩
   .exact k2 k (.inr (.inr (e2 ▸ e)))
   .rw[e2] at e;cases e;omega
theorem Z11 (h:NAt w lo b p F first half after next m):Calls Tryz.prog 15 #[.pointer (some ⟨p,0,none⟩)] w λ e w'=>e=.returned (.int .u32 m.place)/\w=w':=by
 obtain⟨vm,vo,A,c,inp,rd,k1,k2,k3⟩:=h.mach;exact Zr6 k1
theorem Z4j (h:NAt w lo b p F first half after next m):Calls Tryz.prog 16 #[.pointer (some ⟨p,0,none⟩)] w λ e w'=>e=.returned (.int .u32 m.code)/\w=w':=by
 obtain⟨vm,vo,A,c,inp,rd,k1,k2,k3⟩:=h.mach;exact Zuc k1
theorem Z4k (i:Int)(h:NAt w lo b p F first half after next m):Calls Tryz.prog 22 #[.pointer (some ⟨p,0,none⟩),.int .i64 i] w λ e w'=>e=.returned (.tuple #[.int .u32 (m.memV i),.bool (m.memB i)])/\∃n,w'=w.drewN n:=by
 obtain⟨vm,vo,A,c,inp,rd,k1,k2,k3⟩:=h.mach;exact Zyb i k1
end
end
namespace S
def putAt (m:Mach)(a:Int):List Int->Mach
 | []=>m
 | x::r=>putAt (m.putV a x) (a+1) r
def LaidW (m:Mach)(next:Int)(ws:List Int)(v:Int)(m':Mach)(next':Int):Prop :=
 (ws.length=1/\v=ws.getD 0 0/\m'=m/\next'=next)\/(2<=ws.length/\v=4*next+1/\m'=putAt m next ws/\next'=next+ws.length)
end S
theorem Zgw:∀(l:List Int)(m:S.Mach)(a x:Int),S.putAt m a (l++[x])=(S.putAt m a l).putV (a+l.length) x
 | [],m,a,x=>by show m.putV a x=m.putV (a+0) x;rw[Int.add_zero]
 | y::r,m,a,x=>by
  rw[List.cons_append,S.putAt,S.putAt,Zgw r,Yi]
  congr 1
  omega
theorem Ziu {z:Int}{ws:List Int}(h:S.Wz z ws)(hl:ws.length<=1002):∀x∈ws,0<=x/\x<=4294967295:=by
 rcases h with⟨_,_,rfl⟩|⟨_,ds,hc,rfl⟩
 .intro x hx
  rw[List.mem_singleton] at hx;subst hx;unfold S.u32m;omega
 .intro x hx
  rw[Yi,Yi,Yac] at hl;rcases Yz.1 hx with rfl|hx
  .omega
  .rcases Yz.1 hx with rfl|hx
   .split <;> decide
   .obtain⟨d,hd,rfl⟩:=List.mem_map.1 hx
    have:=hc.1 d hd;omega
theorem Zvd {z:Int}{ws:List Int}(h:S.Wz z ws):((-536870912<=z/\z<=536870911)->ws.length=1)/\(¬(-536870912<=z/\z<=536870911)->2<=ws.length):=by
 rcases h with⟨h1,h2,rfl⟩|⟨h1,ds,hc,rfl⟩
 .exact⟨λ _=>rfl,λ h=>absurd ⟨h1,by omega⟩ h⟩
 .exact⟨λ h=>by omega,λ _=>by rw[Yi,Yi];omega⟩
def Z12 (w:World)(lo b p:Nat)(F:Nat->Prop)(first half after next z:Int)(m:S.Mach)(e:Ending)(w':World):Prop :=
 ∃(ws:List Int)(v:Int)(m':S.Mach)(next':Int),e=.returned (.int .u32 v)/\S.Wz z ws/\ws.length<=1002/\S.LaidW m next ws v m' next'/\NAt w' lo b p F first half after next' m'/\Below lo w w'
theorem Z57 {w:World}{lo b p:Nat}{F:Nat->Prop}{first half after next:Int}{m:S.Mach}(neg:Bool)(A:Option Addr)(N c:Nat)(l:List Int)(z:Int)(B:Nat)(hB:B<=w.heap.size)(h:NumW w B z neg A N c l)(hz:(if z<0 then -z else z)<S.bd)(hw:NAt w lo b p F first half after next m)(hn:0<=next/\next<=300000000) :
 Calls Tryz.prog 11 #[.pointer (some ⟨b,0,none⟩),Ze1 neg A N c] w (Z12 w lo b p F first half after next z m):=by
 have H:=Ya h;have HZ:=Ya hz;have hal:=(Yh w.heap.size w).alloc (Yb _) (.cells #[.bool neg,.slice A N c] 31);have hsz0:w.heap.size<(w.alloc (.cells #[.bool neg,.slice A N c] 31)).heap.size:=by simp
 have HAL:=Ya hal;have HS0:=Ya hsz0;have HW:=Ya hw;have K0:=Ya (H.out.below (hal.mono hB));clear h hz hal hsz0 hw;unfold Ze1;go_enter Tryz.func11,Tryz.ntmps11
 go_wp2_with fail
 refine(Z26 neg A N c l z _ B (Y8 hB (Ya8 HS0.out)) K0.out HZ.out).mono ?_;rintro e w1 ⟨A1,n1,c1,ws,rfl,hwz,hn1,hn2,hrd,hb1,hfr⟩;have HWZ:=Ya hwz;have HN1:=Ya hn1;have HRD:=Ya hrd;have HB1:=Ya (Zca HAL.out hb1 (Ya8 HS0.out));have HK1:=Ya (HW.out.below HB1.out);have HFR:=Ya (show ∀k o s,A1=some ⟨k,o,s⟩->¬F k from λ k o s e hk=>by
  have h1:=hfr k o s e;have h2:=(HW.out.lt k hk).2;have h3:=HS0.out;omega)
 have HBL:=Ya (HB1.out.mono HW.out.lolt);obtain⟨hl1,hl2⟩:=Zvd hwz;have hwd:=Ziu hwz (by omega);have HWD:=Ya hwd;clear hb1 hfr hrd hwz hn1 hwd;by_cases hr:-536870912<=z/\z<=536870911
 .have dr:(decide (-536870912<=z) && decide (z<=536870911))=true:=by
   rw[decide_eq_true hr.1,decide_eq_true hr.2];rfl
  have hlen:=hl1 hr;rw[dr];have HL:=Ya hlen;obtain⟨b1,o1,hA1,hb1,hc1⟩:=HRD.out (by rw[Yac];omega);have hx:=hc1 0 (.int .u32 (ws.getD 0 0)) (by rw[Y3,List.getD_eq_getElem?_getD,Yf (by omega)];rfl);have hn11:n1=1:=by rw[HN1.out];exact hlen
  rw[Ybd] at hx;generalize hv:ws.getD 0 0=v at hx;have HV:=Ya hv;subst hA1 hn11;clear dr hr hl1 hl2 hlen hc1 hv;go_wp2_with fail
  go_ret
  exact⟨ws,v,m,next,rfl,HWZ.out,by rw[HL.out];decide,.inl ⟨HL.out,HV.out.symm,rfl,rfl⟩,HK1.out,HBL.out⟩
 .have dr:(decide (-536870912<=z) && decide (z<=536870911))=false:=by
   by_cases c:-536870912<=z
   .rw[decide_eq_true c,decide_eq_false (show ¬z<=536870911 by omega)];rfl
   .rw[decide_eq_false c];rfl
  have hlen:=hl2 hr;rw[dr];have HL:=Ya hlen;clear dr hr hl1 hl2 hlen;go_wp2_with fail
  go_loopw [7] (λ v7 wr=>∃i:Nat,i<=n1/\v7=.int .i64 i/\Hid (NAt wr lo b p F first half after next (S.putAt m next (ws.take i)))/\Hid (Below lo w wr)/\Hid (Reads wr wr.heap.size A1 (ws.map (Yr .u32)))) (λ v7 _=>n1-(intOf v7).toNat)
  case atStart=>exact⟨0,Yag _,rfl,HK1,HBL,HRD⟩
  case round =>
   obtain⟨i,hi,rfl,hk,hbl,hrd⟩:=hrel;by_cases hlt:i<n1
   .have hil:i<ws.length:=by rw[<- HN1.out];exact hlt
    obtain⟨b1,o1,hA1,hb1,hc1⟩:=hrd.out (by rw[Yac];omega);have hx:=hc1 i (.int .u32 ws[i]) (by rw[Y3,Yf hil];rfl);have hvb:=HWD.out ws[i] (List.getElem_mem hil);have Htk:=Ya (show ws.take (i+1)=ws.take i++[ws[i]] from by rw[Ya4,Yf hil];rfl);have Hln:=Ya (show(ws.take i).length=i by rw[List.length_take];omega);obtain⟨v,hv⟩:=Yx ws[i];rw[<- hv] at hx hvb Htk;obtain⟨e0,e1,e2,e3,e4⟩:=hk.out.cells;have hbl2:=hk.out.blt;have d1:decide ((i:Int)<(n1:Int))=true:=decide_eq_true (by omega);have p1:IntKind.i64.wrap (next+i)=next+i:=Yk _ ⟨by omega,by omega⟩;have p2:IntKind.i64.wrap (i:Int)=(i:Int):=Yk _ ⟨by omega,by omega⟩;have p3:IntKind.i64.wrap ((i:Int)+1)=(i:Int)+1:=Yk _ ⟨by omega,by omega⟩;have i3:(i:Int)<(n1:Int):=by omega
    have i4:(0:Int)<=(i:Int):=by omega
    have HNF:=Ya HFR.out;subst hA1;clear hc1 hv;go_upto_region 7 with fail
    refine Zm 14 (by kernel_rfl) (by kernel_rfl) ?_;have hE:=Zu wr;simp only[List.take_succ_cons,List.take_zero,List.drop_succ_cons,List.drop_zero]
    repeat (first|go_big_quiet_step (fail))
    refine wpQuiet_nil ?_;rintro w6 ⟨⟨_,hb6⟩,rfl⟩;have HK6:=Ya (hk.out.below hb6);have HB6:=Ya (hbl.out.trans (hb6.mono hk.out.lolt));have HR6:=Ya (Reads.same hrd.out hb6.size λ k o s e=>by
     cases e
     exact hb6.block _ hb1)
    have hb16:b1<w6.heap.size:=Yy hb1 hb6.size;clear hE hb6 hk hbl hrd e0 e1 e2 e3 e4 hbl2;go_wp2_with fail
    refine(Zz4 (next+i) v HK6.out hvb).mono ?_;rintro e w7 ⟨rv,rfl,hk7,ho7⟩;have HK7:Hid (NAt w7 lo b p F first half after next (S.putAt m next (ws.take (i+1)))):=Ya (by
     rw[Htk.out,Zgw,Hln.out];exact hk7)
    have HB7:=Ya (HB6.out.trans (HK6.out.lobelow ho7));have HR7:=Ya (Reads.same HR6.out ho7.size λ k o s e=>by
     cases e
     exact ho7.block _ hb16 (HNF.out _ _ _ rfl))
    clear hk7 ho7;go_wp2_with fail
    go_roundw
    case rel=>exact⟨i+1,by omega,by go_num,HK7,HB7,HR7⟩
    case measure=>simp[intOf] <;> omega
   .have hie:i=n1:=by omega
    subst hie;obtain⟨e0,e1,e2,e3,e4⟩:=hk.out.cells;have hbl2:=hk.out.blt;have d1:decide ((i:Int)<(i:Int))=false:=by simp
    have hfz:wr.frozen? ⟨b,4,none⟩=false:=frozen_of_row wr b 4 _ _ hk.out.blk;have p1:IntKind.i64.wrap (next+i)=next+i:=Yk _ ⟨by omega,by omega⟩;have p2:IntKind.i64.wrap (next+i-i)=next:=by rw[Yk _ ⟨by omega,by omega⟩];omega
    have p3:IntKind.u32.wrap next=next:=IntWalk.u32_in _ ⟨by omega,by omega⟩;have hor:bits .or .u32 (next*4) 1=4*next+1:=(Zw 2 (next*4) 1 4 (by decide) (by omega) (by omega) (by omega) (by decide) (by decide) (by decide)).trans (by omega);obtain⟨hon,hob⟩:=hk.out.onward (next+i);have HON:=Ya hon;have HOB:=Ya hob;clear hon hob;go_wp2_with fail
    go_ret
    refine⟨ws,4*next+1,S.putAt m next ws,next+i,rfl,HWZ.out,by rw[<- HN1.out];exact hn2,.inr ⟨HL.out,rfl,rfl,by rw[HN1.out]⟩,?_,hbl.out.trans HOB.out⟩;have h:=HON.out;rw[HN1.out,Yaf,<- HN1.out] at h;exact h
namespace S
def readV (m:Mach)(v:Int):Option (List Int) :=
 if v%4=0 then some [v] else
 if v%4=1/\m.memB (v/4)=true/\m.memV (v/4)%32=31/\m.memV (v/4)/32<=300 then
  some (m.memV (v/4)::(Yca (m.memV (v/4)/32).toNat).map λ k:Nat=>m.memV (v/4+((k:Int)+1)))
 else none
end S
def Zdr (w:World)(lo:Nat)(m:S.Mach)(v:Int)(e:Ending)(w':World):Prop :=
 ∃(A:Option Addr)(n c:Nat),e=.returned (.tuple #[.slice A n c,.bool (S.readV m v).isSome])/\n=((S.readV m v).getD []).length/\n<=301/\Reads w' w'.heap.size A (((S.readV m v).getD []).map (Yr .u32))/\Below w.heap.size w w'/\∀k o s,A=some ⟨k,o,s⟩->w.heap.size<=k
theorem Zve {m:S.Mach}(h:m.Ok)(i:Int):0<=m.memV i/\m.memV i<=4294967295:=by
 unfold S.Mach.memV
 split
 .exact h.memw _
 .decide
theorem Z4l {w:World}{lo b p:Nat}{F:Nat->Prop}{first half after next:Int}{m:S.Mach}(v:Int)(hv:0<=v/\v<4294967296)(hw:NAt w lo b p F first half after next m) :
 Calls Tryz.prog 21 #[.pointer (some ⟨b,0,none⟩),.int .u32 v] w (Zdr w lo m v):=by
 have HW:=Ya hw;have f1:bits .and .u32 v 3=v%4:=Z0 2 v 4 3 (by decide) (by decide) (by decide) hv.1 hv.2;obtain⟨e0,e1,e2,e3,e4⟩:=hw.cells;have hbl:=hw.blt;have hok:=hw.ok;have hhb:=Zve hok (v/4);have HMB:=Ya (λ i=>Zve hok i);clear hw hok;go_enter Tryz.func21,Tryz.ntmps21
 by_cases c0:v%4=0
 .have HR:=Ya (show S.readV m v=some [v] by unfold S.readV;rw[if_pos c0])
  have d0:(v%4==0)=true:=by simp[c0]
  clear c0;go_wp2_with fail
  refine bodyPost_ret (v:=.tuple #[.slice (some ⟨w.heap.size,0,none⟩) 1 1,.bool true]) (by simp[results,Tryz.results21,go_sem]) rfl ?_;unfold Zdr;rw[HR.out];exact⟨some ⟨w.heap.size,0,none⟩,1,1,rfl,rfl,by decide,Zba (World.ownsRow_lit (size:=1) (base:=w.heap.size) (e:=37) w #[.int .u32 v] 1 (Yb _) (by decide) rfl),(Yh _ _).alloc (Yb _) _,λ k o s e=>by cases e;exact Yb _⟩
 .have d0:(v%4==0)=false:=by simp[c0]
  obtain⟨hd,hhd⟩:∃h,h=m.memV (v/4):=⟨_,rfl⟩
  rw[<- hhd] at hhb;have HHD:=Ya hhd;have f2:bits .and .u32 hd 31=hd%32:=Z0 5 hd 32 31 (by decide) (by decide) (by decide) hhb.1 (by omega);obtain⟨mb,hmb⟩:∃x,x=m.memB (v/4):=⟨_,rfl⟩
  have HMBt:=Ya hmb;have hcall:=λ w' (hk:NAt w' lo b p F first half after next m)=>Z4k (v/4) hk
  rw[<- hhd,<- hmb] at hcall;have HC:=Ya hcall;clear hcall hhd hmb;go_wp2_with fail
  refine(HC.out _ HW.out).mono ?_;rintro e w2 ⟨rfl,n2,rfl⟩;by_cases c1:v%4=1
  rotate_left
  .have HR:=Ya (show S.readV m v=none by unfold S.readV;rw[if_neg c0,if_neg (λ h=>c1 h.1)])
   have d1:(v%4 != 1)=true:=by simp[c1]
   clear c0 c1;go_wp2_with fail
   refine bodyPost_ret (v:=.tuple #[.slice none 0 0,.bool false]) (by simp[results,Tryz.results21,go_sem]) rfl ?_;unfold Zdr;rw[HR.out];exact⟨none,0,0,rfl,rfl,by decide,λ h=>absurd h (by decide),by repeat (first|exact Yh _ _|refine below_drewN ?_ _),λ k o s e=>by cases e⟩
  have d1:(v%4 != 1)=false:=by simp[c1]
  cases mb with
  | false =>
   have HR:=Ya (show S.readV m v=none by unfold S.readV;rw[if_neg c0,if_neg (λ h=>by rw[<- HMBt.out] at h;exact absurd h.2.1 (by decide))]);clear c0 c1;go_wp2_with fail
   refine bodyPost_ret (v:=.tuple #[.slice none 0 0,.bool false]) (by simp[results,Tryz.results21,go_sem]) rfl ?_;unfold Zdr;rw[HR.out];exact⟨none,0,0,rfl,rfl,by decide,λ h=>absurd h (by decide),by repeat (first|exact Yh _ _|refine below_drewN ?_ _),λ k o s e=>by cases e⟩
  | true =>
  by_cases c2:hd%32=31
  rotate_left
  .have HR:=Ya (show S.readV m v=none by unfold S.readV;rw[if_neg c0,if_neg (λ h=>by rw[<- HHD.out] at h;exact c2 h.2.2.1)])
   have d2:(hd%32 != 31)=true:=by simp[c2]
   clear c0 c1 c2;go_wp2_with fail
   refine bodyPost_ret (v:=.tuple #[.slice none 0 0,.bool false]) (by simp[results,Tryz.results21,go_sem]) rfl ?_;unfold Zdr;rw[HR.out];exact⟨none,0,0,rfl,rfl,by decide,λ h=>absurd h (by decide),by repeat (first|exact Yh _ _|refine below_drewN ?_ _),λ k o s e=>by cases e⟩
  have d2:(hd%32 != 31)=false:=by simp[c2]
  by_cases c3:hd/32<=300
  rotate_left
  .have HR:=Ya (show S.readV m v=none by unfold S.readV;rw[if_neg c0,if_neg (λ h=>by rw[<- HHD.out] at h;exact c3 h.2.2.2)])
   have d3:decide (hd/32>300)=true:=decide_eq_true (by omega);have d3':decide (300<hd/32)=true:=decide_eq_true (by omega);clear c0 c1 c2 c3;go_wp2_with fail
   refine bodyPost_ret (v:=.tuple #[.slice none 0 0,.bool false]) (by simp[results,Tryz.results21,go_sem]) rfl ?_;unfold Zdr;rw[HR.out];exact⟨none,0,0,rfl,rfl,by decide,λ h=>absurd h (by decide),by repeat (first|exact Yh _ _|refine below_drewN ?_ _),λ k o s e=>by cases e⟩
  have d3:decide (hd/32>300)=false:=decide_eq_false (by omega);have d3':decide (300<hd/32)=false:=decide_eq_false (by omega);obtain⟨K,hK⟩:∃K:Nat,hd/32=K:=⟨(hd/32).toNat,by omega⟩
  have hKb:K<=300:=by omega
  have HR:=Ya (show S.readV m v=some (hd::(Yca K).map λ k:Nat=>m.memV (v/4+((k:Int)+1))) by
   unfold S.readV;rw[if_neg c0,if_pos ⟨c1,HMBt.out.symm,by rw[<- HHD.out];exact c2,by rw[<- HHD.out];exact c3⟩,<- HHD.out,hK,Int.toNat_natCast])
  have hvq:0<=v/4/\v/4<=1073741824:=by omega
  clear c0 c1 c2 c3;go_wp2_with fail
  have hal:=(Yh w.heap.size (w.drewN n2)).alloc (Yb _) (.cells #[.int .u32 hd] 37);have HAL:=Ya (show Below w.heap.size w _ from(below_drewN (Yh w.heap.size w) n2).trans hal);have HLIT:=Ya (World.ownsRow_lit (size:=1) (base:=w.heap.size) (e:=37) (w.drewN n2) #[.int .u32 hd] 1 (Yb _) (by decide) rfl);clear hal;go_loopw [8,9,10,11] (λ v8 v9 _ _ wr=>∃(q:Nat)(A3:Option Addr)(c3:Nat),q<=K/\v9=.int .i64 (q+1:Nat)/\v8=.slice A3 (q+1:Nat) c3/\Hid (wr.ownsRow w.heap.size 37 1 (.slice A3 (q+1) c3) (q+1) ((hd::(Yca q).map λ k:Nat=>m.memV (v/4+((k:Int)+1))).map (Yr .u32)))/\Hid (Below w.heap.size w wr)) (λ _ v9 _ _ _=>K+1-(intOf v9).toNat)
  case atStart=>exact⟨0,some ⟨w.heap.size,0,none⟩,1,Yag _,rfl,rfl,HLIT,HAL⟩
  case round =>
   obtain⟨q,A3,c3,hq,rfl,rfl,ho3,hb3⟩:=hrel;have HKr:=Ya (HW.out.below hb3.out);have hz3:=hb3.out.size;by_cases hlt:q<K
   .obtain⟨x,hx⟩:=Yx (m.memV (v/4+((q:Int)+1)))
    have hxb:=HMB.out (v/4+((q:Int)+1));rw[<- hx] at hxb;have Hx:=Ya hx;obtain⟨mb,hmb⟩:∃y,y=m.memB (v/4+((q:Int)+1)):=⟨_,rfl⟩
    have hcall:=Z4k (v/4+((q:Int)+1)) HKr.out;rw[<- hx,<- hmb] at hcall;have HCl:=Ya hcall;obtain⟨g0,g1,g2,g3,g4⟩:=HKr.out.cells;have hbl2:=HKr.out.blt;have d5:decide (((q+1:Nat):Int)<=(K:Int))=true:=decide_eq_true (by omega);have d6:decide (q+1<=K)=true:=decide_eq_true (by omega);have p1:IntKind.i64.wrap (v/4+((q+1:Nat):Int))=v/4+((q:Int)+1):=by rw[Yk _ ⟨by omega,by omega⟩];omega
    have p3:IntKind.i64.wrap (((q+1:Nat):Int)+1)=((q+1+1:Nat):Int):=by rw[Yk _ ⟨by omega,by omega⟩];omega
    clear hx hmb hcall e0 e1 e2 e3 e4 hbl;go_wp2_with fail
    refine HCl.out.mono ?_;rintro e w6 ⟨rfl,n6,rfl⟩;have HO6:=Ya (Zk1 ho3.out n6);have HB6:=Ya (below_drewN hb3.out n6);have p4:IntKind.i64.wrap ((q:Int)+1+1)=(q:Int)+1+1:=by rw[Yk _ ⟨by omega,by omega⟩]
    go_wp2_with (at_builtin;refine Zt rfl (.tmp 67) (.tmp 69) _ rfl w.heap.size 37 Zjo Tryz.underlying51 rfl (by decide) #[.int .u32 x] _ _ _ rfl HO6.out rfl rfl rfl (by simp[Value.oneCell']) (by simp only[maxLen];omega) (by omega) hz3 ?_;intro v' w7 ho7 hg7 hb7 hat7;obtain⟨A8,c8,rfl⟩:=Zb ho7)
    go_roundw
    case rel =>
     refine⟨q+1,A8,c8,hlt,by go_num,?_,Ya ?_,Ya (HB6.out.trans hb7)⟩
     .first|rfl | (congr 1;omega)
     .have e2:List.map (Yr .u32) (hd::(Yca (q+1)).map λ k:Nat=>m.memV (v/4+((k:Int)+1)))=List.map (Yr .u32) (hd::(Yca q).map λ k:Nat=>m.memV (v/4+((k:Int)+1)))++#[Yr .u32 x].toList:=by
       rw[List.range_succ,List.map_append,Hx.out];simp
      rw[e2];exact ho7
    case measure=>simp[intOf] <;> omega
   .have hqe:q=K:=by omega
    subst hqe;have d5:decide (((q+1:Nat):Int)<=(q:Int))=false:=decide_eq_false (by omega);have d6:decide (q+1<=q)=false:=decide_eq_false (by omega);have d7:decide ((q:Int)+1<=(q:Int))=false:=decide_eq_false (by omega);clear e0 e1 e2 e3 e4 hbl;go_wp2_with fail
    refine bodyPost_ret (v:=.tuple #[.slice A3 (q+1) c3,.bool true]) (by simp[results,Tryz.results21,go_sem]) rfl ?_;unfold Zdr;rw[HR.out];refine⟨A3,q+1,c3,rfl,by simp,by omega,Zba ho3.out,hb3.out,λ k o s e=>?_⟩;obtain⟨g,e2,h1,_⟩:=Z6 ho3.out (by omega);rw[e] at e2
    cases e2
    exact h1
def S.bf (l:List Int)(code:Int)(ws:List Int):Bool:=decide (code=-1) && decide (l=ws)
theorem Zsk {l ws:List Int}{i:Nat}(hi:i<l.length)(hj:i<ws.length)(h:l[i]≠ws[i]):l≠ws:=λ e=>by
 subst e;exact h rfl
theorem Z6r (A A':Option Addr)(N c N' c':Nat)(code:Int)(l ws:List Int)(hN:N=l.length)(hN':N'=ws.length)(w:World)(h:Reads w w.heap.size A (l.map (Yr .u32)))(h':Reads w w.heap.size A' (ws.map (Yr .u32)))(hl:N<=1000000)(hl':N'<=1000000) :
 Calls Tryz.prog 26 #[.slice A N c,.int .i64 code,.slice A' N' c'] w λ e w'=>e=.returned (.bool (S.bf l code ws))/\Below w.heap.size w w':=by
 have HN:=Ya hN;have HN':=Ya hN';have H:=Ya h;have H':=Ya h';clear hN hN' h h';go_enter Tryz.func26,Tryz.ntmps26
 by_cases c0:code=-1
 rotate_left
 .have d0:(code != -1)=true:=by simp[c0]
  have HR:=Ya (show S.bf l code ws=false by unfold S.bf;rw[decide_eq_false c0];rfl);clear c0;go_wp2_with fail
  go_ret
  exact⟨by rw[HR.out];rfl,Yh _ _⟩
 have d0:(code != -1)=false:=by simp[c0]
 by_cases c1:N=N'
 rotate_left
 .have d1:((N:Int) != (N':Int))=true:=by simp;omega
  have HR:=Ya (show S.bf l code ws=false by
   unfold S.bf;rw[decide_eq_false (show ¬l=ws from λ e=>c1 (by rw[HN.out,HN'.out,e])),Bool.and_false])
  clear c0 c1;go_wp2_with fail
  go_ret
  exact⟨by rw[HR.out];rfl,Yh _ _⟩
 have d1:((N:Int) != (N':Int))=false:=by simp;omega
 have HC0:=Ya c0;subst c1;clear c0;go_wp2_with fail
 go_loopw [7] (λ i wr=>∃k:Nat,k<=N/\i=.int .i64 k/\Hid (l.take k=ws.take k)/\∃n,wr=w.drewN n) (λ i _=>N-(intOf i).toNat)
 case atStart=>exact⟨0,Yag _,rfl,Ya rfl,0,rfl⟩
 case round =>
  obtain⟨k,hk,rfl,hz,n,rfl⟩:=hrel;by_cases hlt:k<N
  .have h1:k<l.length:=by rw[<- HN.out];exact hlt
   have h2:k<ws.length:=by rw[<- HN'.out];exact hlt
   obtain⟨b,off,hA,hb,hc⟩:=H.out (by rw[Yac];omega);obtain⟨b',off',hA',hb',hc'⟩:=H'.out (by rw[Yac];omega);have q0:=hc k (.int .u32 l[k]) (by rw[Y3,Yf h1];rfl);have q1:=hc' k (.int .u32 ws[k]) (by rw[Y3,Yf h2];rfl);have t1:=Ya (show l.take (k+1)=l.take k++[l[k]] from by rw[Ya4,Yf h1];rfl);have t2:=Ya (show ws.take (k+1)=ws.take k++[ws[k]] from by rw[Ya4,Yf h2];rfl);have HNE:=Ya (λ h=>Zsk h1 h2 h);obtain⟨u,hu⟩:∃x,x=l[k]:=⟨_,rfl⟩
   obtain⟨v,hv⟩:∃x,x=ws[k]:=⟨_,rfl⟩
   rw[<- hu] at q0 t1 HNE;rw[<- hv] at q1 t2 HNE;have p2:IntKind.i64.wrap (k:Int)=(k:Int):=Yk _ ⟨by omega,by omega⟩;have p3:IntKind.i64.wrap ((k:Int)+1)=(k:Int)+1:=Yk _ ⟨by omega,by omega⟩;have i3:(k:Int)<(N:Int):=by omega
   have i4:(0:Int)<=(k:Int):=by omega
   have d2:decide ((k:Int)<(N:Int))=true:=decide_eq_true i3;have d3:decide (k<N)=true:=decide_eq_true hlt;subst hA hA';clear hc hc' hu hv;by_cases cu:u=v
   .have en:(u != v)=false:=by simp[cu]
    have Cu:=Ya cu;clear cu;go_wp2_with fail
    go_quiet (fail)
    go_wp2_with fail
    go_roundw
    case rel=>exact⟨k+1,hlt,by go_num,Ya (by rw[t1.out,t2.out,hz.out,Cu.out]),_,rfl⟩
    case measure=>simp[intOf] <;> omega
   .have en:(u != v)=true:=by simp[cu]
    have HR:=Ya (show S.bf l code ws=false by
     unfold S.bf;rw[decide_eq_false (HNE.out cu),Bool.and_false])
    clear cu;go_wp2_with fail
    go_quiet (fail)
    go_wp2_with fail
    go_ret
    exact⟨by rw[HR.out];rfl,by repeat (first|exact Yh _ _|refine below_drewN ?_ _)⟩
  .have hke:k=N:=by omega
   subst hke;have d2:decide ((k:Int)<(k:Int))=false:=by simp
   have HR:=Ya (show S.bf l code ws=true by
    have h1:=hz.out;rw[HN.out,Yaf,<- HN.out,HN'.out,Yaf] at h1;unfold S.bf;rw[decide_eq_true HC0.out,decide_eq_true h1];rfl)
   go_wp2_with fail
   go_ret
   exact⟨by rw[HR.out];rfl,by repeat (first|exact Yh _ _|refine below_drewN ?_ _)⟩
theorem Zsl {w w':World}{A:Option Addr}{l:List Int}{g:Nat}{x:Bool}{A0:Option Addr}{n0 c0:Nat}{t:TypeId}(h:Ints w w.heap.size A l)(hb:w.heap[g]?=some (.cells #[.bool x,.slice A0 n0 c0] t (0,0)))(hk:∀k,k≠g->k<w.heap.size->w'.heap[k]?=w.heap[k]?)(hz:w.heap.size<=w'.heap.size):Ints w' w'.heap.size A l:=λ hp=>by
 obtain⟨b,off,e,hB,hc⟩:=h hp;have h0:=hc 0 _ (Yf hp);have hne:b≠g:=by
  rintro rfl;rw[Yc hb,Ybd] at h0
  match off,h0 with
  | 0,h0=>cases h0
  | 1,h0=>cases h0
  | n+2,h0=>simp at h0
 exact⟨b,off,e,by omega,λ i x hx=>(World.cell?_of_block (a:=⟨b,off+i,none⟩) (hk b hne hB)).trans (hc i x hx)⟩
theorem Z58 (s:ByteArray)(p:Nat)(neg:Bool)(l:List Int)(ht:S.Tz s p neg l)(hs:s.size<=1000000)(w:World) :
 Calls Tryz.prog 53 #[.string s] w λ e w'=>∃(neg':Bool)(A:Option Addr)(m c:Nat)(l':List Int),e=.returned (Ze1 neg' A m c)/\NumW w' w'.heap.size (S.tz neg l) neg' A m c l'/\Below w.heap.size w w':=by
 have HT:=Ya ht;clear ht;go_enter Tryz.func53,Tryz.ntmps53
 go_wp2_with fail
 refine(Zqg s p neg l HT.out hs _).mono ?_;rintro e w1 ⟨neg1,A1,m1,c1,l1,rfl,hn1,hb1⟩;have HN:=Ya hn1;have HB:=Ya hb1;have hz1:=hb1.size;have hz0:(w.alloc (.cells #[.bool false,.slice none 0 0] 31)).heap.size=w.heap.size+1:=by simp
 have hblk:=(hb1.block w.heap.size (by rw[hz0];exact Nat.lt_succ_self _)).trans (heap_alloc_new w _);rw[hz0] at hz1;have hal:=(Yh w.heap.size w).alloc (Yb _) (.cells #[.bool false,.slice none 0 0] 31);have HB1:=Ya (Zca hal hb1 (by rw[hz0];exact Nat.le_succ _));have hc0:w1.cell? ⟨w.heap.size,0,none⟩=some (.bool false):=by rw[Yc hblk];rfl
 have hc1:w1.cell? ⟨w.heap.size,1,none⟩=some (.slice none 0 0):=by rw[Yc hblk];rfl
 have hf0:w1.frozen? ⟨w.heap.size,0,none⟩=false:=frozen_of_row w1 w.heap.size 0 _ _ hblk;have hf1:w1.frozen? ⟨w.heap.size,1,none⟩=false:=frozen_of_row w1 w.heap.size 1 _ _ hblk;have hlt:w.heap.size<w1.heap.size:=hz1;clear hn1 hb1 hal;unfold Ze1;go_wp2_with fail
 obtain⟨wf,hwf⟩:∃wf,wf=(((w1.setCell { block:=w.heap.size,off:=0 } (Value.bool neg1)).setCell { block:=w.heap.size,off:=1 } (Ybr A1 m1 c1)).alloc (Obj.cells #[Value.bool neg1,Ybr A1 m1 c1] 31)):=⟨_,rfl⟩
 have hzf:wf.heap.size=w1.heap.size+1:=by rw[hwf];simp
 have hkf:∀k,k≠w.heap.size->k<w1.heap.size->wf.heap[k]?=w1.heap[k]?:=λ k hk hl=>by
  rw[hwf,((Yh w1.heap.size _).alloc (by simp) _).block k hl,heap_setCell_other _ ⟨w.heap.size,1,none⟩ k _ hk,heap_setCell_other _ ⟨w.heap.size,0,none⟩ k _ hk]
 have hbf:wf.heap[w.heap.size]?=some (.cells #[.bool neg1,.slice A1 m1 c1] 31 (0,0)):=by
  rw[hwf,((Yh w1.heap.size _).alloc (by simp) _).block _ hlt];have h1:=heap_setCell_same w1 w.heap.size 0 _ _ (.bool neg1) hblk;exact heap_setCell_same _ w.heap.size 1 _ _ (.slice A1 m1 c1) h1
 have hbel:Below w.heap.size w1 wf:=by
  rw[hwf];exact(((Yh w.heap.size w1).setCell (p:=⟨w.heap.size,0,none⟩) (Yb _) _).setCell (p:=⟨w.heap.size,1,none⟩) (Yb _) _).alloc (Y8 (Ya8 hlt) (Nat.le_of_eq (by simp))) _
 have hc0:wf.cell? ⟨w.heap.size,0,none⟩=some (.bool neg1):=by rw[Yc hbf];rfl
 have hc1:wf.cell? ⟨w.heap.size,1,none⟩=some (.slice A1 m1 c1):=by rw[Yc hbf];rfl
 rw[<- hwf];refine bodyPost_ret (v:=Ze1 neg1 A1 m1 c1) (by simp[results,Tryz.results53,go_sem,Ze1,hc0,hc1]) rfl ?_;have q:=HN.out;exact⟨neg1,A1,m1,c1,l1,rfl,⟨q.z,q.len,q.few,Zsl q.at_ hblk hkf (by omega),q.nil,q.cap⟩,HB1.out.trans hbel⟩
