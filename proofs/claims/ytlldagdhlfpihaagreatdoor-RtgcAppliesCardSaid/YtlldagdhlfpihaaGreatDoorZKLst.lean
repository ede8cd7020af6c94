/- Parts. -/
import Derived.Test.YtlldagdhlfpihaaGreatDoorZGPrs
import Derived.Test.YtlldagdhlfpihaaGreatDoorZKWks
set_option linter.unusedVariables false
set_option linter.unusedSimpArgs false
set_option linter.unusedSectionVars false
namespace Go.Proofs.YtlldagdhlfpihaaGreatDoor
set_option maxRecDepth 100000
open Go.RowKit
theorem k_Head (t l:Int)(w:World)(ht:0<=t/\t<=7)(hl:0<=l/\l<=1000000):Calls Tryz.prog 69 #[.int .i64 t,.int .i64 l] w fun e w'=>e=.returned (.int .u32 (32*l+4*t+3))/\w=w':=by
 have q1:IntKind.i64.wrap (32*l)=32*l:=IntWalk.i64_in _ ⟨by omega,by omega⟩
 have q2:IntKind.i64.wrap (4*t)=4*t:=IntWalk.i64_in _ ⟨by omega,by omega⟩
 have q3:IntKind.i64.wrap (32*l+4*t)=32*l+4*t:=IntWalk.i64_in _ ⟨by omega,by omega⟩
 have q4:IntKind.i64.wrap (32*l+4*t+3)=32*l+4*t+3:=IntWalk.i64_in _ ⟨by omega,by omega⟩
 have q5:(32*l+4*t+3)%4294967296=32*l+4*t+3:=by omega
 go_enter Tryz.func69,Tryz.ntmps69
 go_wp2_with fail
 go_ret
 exact ⟨rfl,rfl⟩
theorem k_Pointer (t:Int)(w:World)(ht:0<=t/\t<=335544320):Calls Tryz.prog 70 #[.int .i64 t] w fun e w'=>e=.returned (.int .u32 (4*t+1))/\w=w':=by
 have q2:IntKind.i64.wrap (4*t)=4*t:=IntWalk.i64_in _ ⟨by omega,by omega⟩
 have q4:IntKind.i64.wrap (4*t+1)=4*t+1:=IntWalk.i64_in _ ⟨by omega,by omega⟩
 have q5:(4*t+1)%4294967296=4*t+1:=by omega
 go_enter Tryz.func70,Tryz.ntmps70
 go_wp2_with fail
 go_ret
 exact ⟨rfl,rfl⟩
theorem endL_bd {p:Int}(hp:0<=p):∀ {j:Nat},p+3*j<=300000000->0<=S.endL p j/\S.endL p j<=4294967295
 | 0,_=>by show 0<=(38:Int)/\(38:Int)<=4294967295;decide
 | j+1,h=>by rw [S.endL];omega
section
variable {w w':World}{F:Nat->Prop}{lo b p_:Nat}{H half:Int}{P:List (ByteArray×Int)}{m:S.Mach}
set_option maxHeartbeats 4000000 in
theorem k_list (gv:Value)(av:Value)(N:Int)(hK:KAt w lo b p_ F H half P m){p:Int}(hp:m.rd 26=p)(hp0:0<=p)(hN:-1000<=N/\N<=1000)(hpt:p+3*N<=200000000) :
 Calls Tryz.prog 37 #[.pointer (some ⟨b,0,none⟩),gv,av,.int .i64 N] w fun e w'=>e=.returned (.int .u32 (S.endL p N.toNat))/\KAt w' lo b p_ F H half P (S.listM m p N N.toNat)/\Only F w w':=by
 have HK:=Lib.hid hK
 have Hp:=Lib.hid hp
 obtain ⟨T,hT⟩:∃ T,T=N.toNat:=⟨_,rfl⟩
 have hTN:(0<=N/\(T:Int)=N)\/(N<0/\T=0):=by omega
 have hT1:T<=1000:=by omega
 have hptT:p+3*T<=300000000\/T=0:=by omega
 rw [<- hT]
 have HT:=Lib.hid hT
 clear hK hp hT
 have q0:IntKind.i64.wrap (N-1)=N-1:=IntWalk.i64_in _ ⟨by omega,by omega⟩
 go_enter Tryz.func37,Tryz.ntmps37
 go_wp2_with fail
 clear q0
 go_loopw [9,10] (fun v9 v10 wl=>∃ j:Nat,j<=T/\v10=.int .i64 (N-1-j)/\v9=.int .u32 (S.endL p j)/\Hid (KAt wl lo b p_ F H half P (S.listM m p N j))/\Hid (Only F w wl)/\Hid ((S.listM m p N j).rd 26=p+3*j)) (fun _ v10 _=>(intOf v10+1).toNat)
 case atStart=>exact ⟨0,by omega,by simp,rfl,HK,Lib.hid (Only.refl _ _),Lib.hid (by rw [S.listM,Hp.out];simp)⟩
 case round =>
  obtain ⟨j,hj,rfl,rfl,HKj,HOj,Hrj⟩:=hrel
  obtain ⟨_,_,_,_,_,_,e0,e1,e2,e3,e4⟩:=HKj.out.cells
  have hbl:=HKj.out.blt
  by_cases hlt:j<T
  ·have d1:decide (N-1-(j:Int)>=0)=true:=by simp;omega
   obtain ⟨at_,hat⟩:∃ at_,at_=p+3*(j:Int):=⟨_,rfl⟩
   obtain ⟨i,hi⟩:∃ i,i=N-1-(j:Int):=⟨_,rfl⟩
   have Hat:=Lib.hid hat
   have Hi:=Lib.hid hi
   have hab:0<=at_/\at_<=300000000:=by omega
   have hib:0<=i/\i<=1000:=by omega
   have heb:=endL_bd hp0 (j:=j) (by omega)
   obtain ⟨en,hen⟩:∃ en,en=S.endL p j:=⟨_,rfl⟩
   have Hen:=Lib.hid hen
   obtain ⟨mj,hmj⟩:∃ mj,mj=S.listM m p N j:=⟨_,rfl⟩
   have Hmj:=Lib.hid hmj
   rw [<- hi] at d1 ⊢
   rw [<- hen] at heb ⊢
   rw [<- hmj] at HKj Hrj
   rw [<- hat] at Hrj
   have hreg:=k_Reg 26 HKj.out
   rw [rd_reg (by decide) (by decide),Hrj.out] at hreg
   have Hreg:=Lib.hid hreg
   have c1:at_%18446744073709551616=at_:=by omega
   have c2:IntKind.i64.wrap (at_+1)=at_+1:=IntWalk.i64_in _ ⟨by omega,by omega⟩
   have c3:IntKind.i64.wrap (at_+2)=at_+2:=IntWalk.i64_in _ ⟨by omega,by omega⟩
   have c4:IntKind.u32.wrap (at_+3)=at_+3:=IntWalk.u32_in _ ⟨by omega,by omega⟩
   have c5:IntKind.i64.wrap (100+i)=100+i:=IntWalk.i64_in _ ⟨by omega,by omega⟩
   have c6:IntKind.i64.wrap (4*(100+i))=4*(100+i):=IntWalk.i64_in _ ⟨by omega,by omega⟩
   have c7:(4*(100+i))%4294967296=4*(100+i):=by omega
   have c8:IntKind.i64.wrap (i-1)=i-1:=IntWalk.i64_in _ ⟨by omega,by omega⟩
   clear hreg hat hi hen hmj
   go_wp2_with fail
   refine Hreg.out.mono ?_
   rintro e _ ⟨rfl,rfl⟩
   go_upto_region 6 with fail
   have Hhd:=Lib.hid (show ∀ y:Ext wr,Calls Tryz.prog 69 #[.int .i64 0,.int .i64 2] y.val fun e w'=>e=.returned (.int .u32 67)/\y.val=w' from fun y=>k_Head 0 2 y.val (by decide) (by decide))
   refine wp_region_ext_tail 7 (by kernel_rfl) (by kernel_rfl) ?_
   have hE:=ext_cells wr
   simp only [List.take_succ_cons,List.take_zero,List.drop_succ_cons,List.drop_zero]
   repeat (first | go_big_quiet_step ((go_at_call 69;exact ext_of_same (Hhd.out _))))
   refine wpQuiet_nil ?_
   rintro w2 ⟨⟨_,hb2⟩,rfl⟩
   have HK2:=Lib.hid (HKj.out.below hb2)
   have HO2:=Lib.hid (HOj.out.trans (Only.of_below (F:=F) hb2) fun _ _ q=>q)
   clear hE hb2 HKj HOj e0 e1 e2 e3 e4 hbl Hhd Hreg
   go_wp2_with fail
   refine (k_PutR at_ 67 HK2.out (by decide)).mono ?_
   rintro e w3 ⟨rv,rfl,hk3,ho3⟩
   have HK3:=Lib.hid hk3
   have HO3:=Lib.hid (HO2.out.trans ho3 fun _ _ q=>q)
   clear hk3 ho3 HK2 HO2
   obtain ⟨_,_,_,_,_,_,e0,e1,e2,e3,e4⟩:=HK3.out.cells
   have hbl:=HK3.out.blt
   go_wp2_with fail
   refine (k_PutR (at_+1) (4*(100+i)) HK3.out (by omega)).mono ?_
   rintro e w4 ⟨rv,rfl,hk4,ho4⟩
   have HK4:=Lib.hid hk4
   have HO4:=Lib.hid (HO3.out.trans ho4 fun _ _ q=>q)
   clear hk4 ho4 HK3 HO3 e0 e1 e2 e3 e4 hbl
   obtain ⟨_,_,_,_,_,_,e0,e1,e2,e3,e4⟩:=HK4.out.cells
   have hbl:=HK4.out.blt
   go_wp2_with fail
   refine (k_PutR (at_+2) en HK4.out heb).mono ?_
   rintro e w5 ⟨rv,rfl,hk5,ho5⟩
   have HK5:=Lib.hid hk5
   have HO5:=Lib.hid (HO4.out.trans ho5 fun _ _ q=>q)
   clear hk5 ho5 HK4 HO4 e0 e1 e2 e3 e4 hbl
   obtain ⟨_,_,_,_,_,_,e0,e1,e2,e3,e4⟩:=HK5.out.cells
   have hbl:=HK5.out.blt
   go_wp2_with fail
   refine (k_SetR 26 (at_+3) HK5.out (by omega)).mono ?_
   rintro e w6 ⟨rv,rfl,hk6,ho6⟩
   have HR6:=Lib.hid (setV_rd HK5.out.ok (i:=26) (v:=at_+3) (j:=26) (by decide) (by decide))
   have HK6:=Lib.hid hk6
   have HO6:=Lib.hid (HO5.out.trans ho6 fun _ _ q=>q)
   clear hk6 ho6 HK5 HO5 e0 e1 e2 e3 e4 hbl
   go_wp2_with fail
   refine (k_Pointer at_ w6 (by omega)).mono ?_
   rintro e _ ⟨rfl,rfl⟩
   go_wp2_with fail
   have hm1:S.listM m p N (j+1)=(((mj.putV at_ 67).putV (at_+1) (4*(100+i))).putV (at_+2) en).setV 26 (at_+3):=by
    rw [S.listM,<- Hmj.out,<- Hat.out,<- Hi.out,<- Hen.out]
   go_roundw
   case rel=>exact ⟨j+1,by omega,by rw [Hi.out];congr 1;omega,by rw [S.endL,Hat.out],Lib.hid (by rw [hm1];exact HK6.out),HO6,Lib.hid (by rw [hm1,HR6.out,if_pos trivial,Hat.out];omega)⟩
   case measure=>simp [intOf];omega
  ·have hje:j=T:=by omega
   subst hje
   have d1:decide (N-1-(j:Int)>=0)=false:=by simp;omega
   go_wp2_with fail
   go_ret
   exact ⟨rfl,HKj.out,HOj.out⟩
set_option maxHeartbeats 4000000 in
theorem k_items (v:Int)(L:List Int)(hK:KAt w lo b p_ F H half P m)(hL:S.ListAt m v L)(hl:L.length<200) :
 Calls Tryz.prog 38 #[.pointer (some ⟨b,0,none⟩),.int .u32 v] w fun e w'=>∃ A c,e=.returned (.tuple #[.slice A L.length c,.bool true])/\w'.ownsRow w.heap.size 30 1 (.slice A L.length c) L.length (L.map (Value.int .u32))/\Below w.heap.size w w':=by
 have HK:=Lib.hid hK
 have HL:=Lib.hid hL
 obtain ⟨T,hT⟩:∃ T,T=L.length:=⟨_,rfl⟩
 rw [<- hT] at hl ⊢
 have HT:=Lib.hid hT
 clear hK hL hT
 go_enter Tryz.func38,Tryz.ntmps38
 go_wp2_with fail
 go_loopw [1,6] (fun v1 v6 wl=>∃ k:Nat,k<=T/\(∃ x,v1=.int .u32 x/\Hid (S.ListAt m x (L.drop k)))/\(∃ A c,v6=.slice A k c/\Hid (wl.ownsRow w.heap.size 30 1 (.slice A k c) k ((L.take k).map (Value.int .u32))))/\Hid (Below w.heap.size w wl)) (fun _ v6 _=>T-lenV v6)
 case atStart=>exact ⟨0,by omega,⟨v,rfl,HL⟩,⟨none,0,rfl,Lib.hid (World.ownsRow_nil _ _ _ _)⟩,Lib.hid (Below.refl _ _)⟩
 case round =>
  obtain ⟨k,hk,⟨x,rfl,Hx⟩,⟨A,c,rfl,HO⟩,HB⟩:=hrel
  have hz:=HB.out.size
  have HKr:=Lib.hid (HK.out.below HB.out)
  by_cases hlt:k<T
  ·have hkl:k<L.length:=by rw [<- HT.out];exact hlt
   have hd:L.drop k=L[k]::L.drop (k+1):=List.drop_eq_getElem_cons hkl
   have hx:=Hx.out
   rw [hd] at hx
   obtain ⟨x1,x2,x3,x4,x5,x6⟩:=hx
   have Htk:=Lib.hid (show L.take (k+1)=L.take k++[L[k]] from by rw [List.take_add_one,List.getElem?_eq_getElem hkl];rfl)
   obtain ⟨y,hy⟩:∃ y,y=L[k]:=⟨_,rfl⟩
   rw [<- hy] at x5 Htk
   have d1:(x%4==1)=true:=by simp [x1]
   have d2:decide ((k:Int)<200)=true:=by simp;omega
   obtain ⟨q,hq⟩:∃ q,q=x/4:=⟨_,rfl⟩
   have hqb:0<=q/\q<=1073741823:=by omega
   rw [<- hq] at x4 x5 x6
   have Hq:=Lib.hid hq
   have hwd:=k_WordB q HKr.out
   rw [x4] at hwd
   have Hwd:=Lib.hid hwd
   have X5:=Lib.hid x5
   have X6:=Lib.hid x6
   clear hwd x4 x5 x6 hd hy x1
   have c0:x/4=q:=hq.symm
   have c1:q%18446744073709551616=q:=by omega
   have c2:IntKind.i64.wrap (q+1)=q+1:=IntWalk.i64_in _ ⟨by omega,by omega⟩
   have c3:IntKind.i64.wrap (q+2)=q+2:=IntWalk.i64_in _ ⟨by omega,by omega⟩
   clear hq
   go_wp2_with fail
   refine Hwd.out.mono ?_
   rintro e w2 ⟨rfl,hb2⟩
   have HB2:=Lib.hid (HB.out.trans (hb2.mono hz))
   have HO2:=Lib.hid (ownsRow_below HO.out hb2)
   have HK2:=Lib.hid (HKr.out.below hb2)
   clear hb2 HB HO HKr Hwd
   have hwd:=k_WordB (q+1) HK2.out
   rw [X5.out] at hwd
   have Hwd:=Lib.hid hwd
   clear hwd
   go_wp2_with fail
   refine Hwd.out.mono ?_
   rintro e w3 ⟨rfl,hb3⟩
   have HB3:=Lib.hid (HB2.out.trans (hb3.mono HB2.out.size))
   have HO3:=Lib.hid (ownsRow_below HO2.out hb3)
   have HK3:=Lib.hid (HK2.out.below hb3)
   have hz3:=HB3.out.size
   clear hb3 HB2 HO2 HK2 Hwd
   go_upto_region 4 with (at_builtin;refine wpList_push rfl (.tmp 23) (.tmp 30) _ rfl w.heap.size 30 u32_infoA Tryz.underlying50 rfl (by decide) #[.int .u32 y] _ k _ rfl HO3.out rfl rfl rfl (by simp [Value.oneCell']) (by simp only [maxLen];omega) (by omega) hz3 ?_;intro v' w7 ho7 hg7 hb7 _;obtain ⟨A8,c8,rfl⟩:=ownsRow_form ho7)
   have HB7:=Lib.hid (HB3.out.trans hb7)
   have HO7:Hid (w7.ownsRow w.heap.size 30 1 (.slice A8 (k+1) c8) (k+1) ((L.take (k+1)).map (Value.int .u32))):=Lib.hid (by
    rw [Htk.out,List.map_append]
    exact ho7)
   have HK7:=Lib.hid (HK.out.below HB7.out)
   clear ho7 hg7 hb7 HO3 HB3 HK3
   have hwd:=k_WordB (q+2) HK7.out
   have Hwd:=Lib.hid hwd
   obtain ⟨x2',hx2⟩:∃ x2',x2'=m.memV (q+2):=⟨_,rfl⟩
   rw [<- hx2] at X6 Hwd
   clear hwd hx2
   go_wp2_with fail
   refine Hwd.out.mono ?_
   rintro e w8 ⟨rfl,hb8⟩
   have HB8:=Lib.hid (HB7.out.trans (hb8.mono HB7.out.size))
   have HO8:=Lib.hid (ownsRow_below HO7.out hb8)
   clear hb8 HB7 HO7 HK7 Hwd
   go_wp2_with fail
   go_roundw
   case rel=>exact ⟨k+1,by omega,⟨x2',rfl,X6⟩,⟨A8,c8,rfl,HO8⟩,HB8⟩
   case measure=>simp [lenV];omega
  ·have hke:k=T:=by omega
   subst hke
   have hx:=Hx.out
   rw [HT.out,List.drop_length] at hx
   have hx38:x=38:=hx
   clear hx
   subst hx38
   go_wp2_with fail
   refine bodyPost_ret (v:=.tuple #[.slice A k c,.bool true]) (by simp [results,Tryz.results38,go_sem]) rfl ⟨A,c,rfl,?_,HB.out⟩
   have h:=HO.out
   have e:L.take k=L:=by rw [HT.out,List.take_length]
   rw [e] at h
   exact h
end
end Go.Proofs.YtlldagdhlfpihaaGreatDoor
