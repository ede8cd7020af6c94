/- Parts. -/
import Derived.Test.YtcjhmiijbojgeaaGreatDoorZVAg
set_option linter.all false
set_option maxHeartbeats 4000000
open Go.Lib renaming hid->Ya,cell_of_heap->Yb
open Nat renaming le_refl->Yc,lt_of_lt_of_le->Ys,le_trans->Yz,zero_le->Yao,le_of_lt->Ya5,lt_succ_self->Ya6,le_succ->Ydd
open List renaming getElem?_eq_getElem->Ye,getD_eq_getElem?_getD->Yh,length_cons->Yk,length_map->Y8,length_take->Yaa,getElem?_map->Yaf,take_zero->Yaj,take_add_one->Yan,take_length->Yap,take_succ_cons->Yaq,getElem_mem->Yas,take_of_length_le->Yau,drop_zero->Ya0,drop_succ_cons->Ya1,map_append->Yba
open Go.RowKit.Below renaming refl->Yj
open Go.IntWalk renaming i64_in->Ym,u32_in->Ybo
open Go.Value renaming oneCell'->Yt,int->Yu
open Array renaming getElem?_eq_some_iff->Y3
open Int renaming eq_ofNat_of_zero_le->Ybp
namespace Go.Proofs.YtcjhmiijbojgeaaGreatDoor
open S Go.Proofs.Tryz Go.RowKit
set_option maxRecDepth 100000
section
attribute [local irreducible] midV
namespace S
structure FirstV (F:List Int)(size H0 half:Int)(m:Mach):Prop where
 ok:∀b,(wImgV b [] [] F size).Ok
 wd:WdV [] [] F size m
 r26:m.rd 26=H0
 r27:m.rd 27=H0+half
 m2:m.mv 2=H0
 m3:m.mv 3=H0+half
 m4:m.mv 4=half
 m5:m.mv 5=38
 low:∀a,5<a->a<1312->m.mv a=0
 h0:H0=(wImgV true [] [] F size).lab kEnd
 hsz:size=H0+2*half
 hhf:1000<=half/\half<=1000000
def symA (F:List Int)(size:Int)(m0:Mach)(xa:List Int):Mach:=callP (wImgV true [] [] F size) ((takeM m0 4 xa).setV 4 (4*m0.rd 26+1)) (kRt 25) 400000
def symB (F:List Int)(size:Int)(m0:Mach)(xa xb:List Int):Mach :=
 ((takeM (againM m0 (symA F size m0 xa)) 4 xb).setV 4 (4*(symA F size m0 xa).rd 26+1)).putV 26 ((symA F size m0 xa).rd 4)
def symC (F:List Int)(size:Int)(m0:Mach)(xa xb:List Int):Mach :=
 callM (wImgV true [] [] F size) ((((symB F size m0 xa xb).putV 16 ((symA F size m0 xa).rd 4)).putV 17 (4*(symA F size m0 xa).rd 26+1)).putV 8 2) kCollect 100000
def symD (F:List Int)(size:Int)(m0:Mach)(xa xb:List Int):Mach :=
 ((againM m0 (symC F size m0 xa xb)).putV 8 0).setV 4 ((symC F size m0 xa xb).mv 17)
end S
theorem Zhn (m0 m:S.Mach)(j:Int):(S.againM m0 m).rd j=m.rd j:=rfl
theorem Zl0 (m0 m:S.Mach)(a:Int):(S.againM m0 m).mv a=m.mv a:=rfl
section
variable {F:List Int}{size H0 half:Int}{m0:S.Mach}(hF:S.FirstV F size H0 half m0){xa xb:List Int}(ha:CharW xa)(hb:CharW xb)(hal:xa.length<=100)(hbl:xb.length<=100)
include hF ha hal
theorem Zce:ax (S.symA F size m0 xa) ((S.wImgV true [] [] F size).lab kMapped+1)=0/\(S.symA F size m0 xa).rd 4=4*(H0+1+xa.length+xa.length+1)+1/\(S.symA F size m0 xa).rd 26=H0+1+xa.length+xa.length+6/\(S.symA F size m0 xa).rd 27=H0+half /\
 S.WdV [] [] F size (S.againM m0 (S.symA F size m0 xa))/\SymF (S.symA F size m0 xa).mv (H0+1+xa.length) xa/\(S.symA F size m0 xa).mv 2=H0/\(S.symA F size m0 xa).mv 3=H0+half/\(S.symA F size m0 xa).mv 4=half/\(S.symA F size m0 xa).mv 6=0/\(S.symA F size m0 xa).mv 7=0/\(S.symA F size m0 xa).mv 8=0:=by
 have f:=hF.ok true;have hsz:=hF.hsz;have hhf:=hF.hhf;have Q:=hF.h0;have he:=Zas f;have I:=f.size2;have D:(S.wImgV true [] [] F size).size=size:=rfl;obtain⟨t1,t2,t3,t4,t5,R⟩:=Zly f (H:=H0) (typ:=4) (ws:=xa) hF.wd (λ x J=>by have:=ha x J;omega) hF.r26 (by decide) (by omega) (by omega) (by omega);obtain⟨m1,e⟩:=Yx ((S.takeM m0 4 xa).setV 4 (4*m0.rd 26+1));have w1:S.WdV [] [] F size m1:=by
  rw[e];exact Zd7 f t1 (by decide) (λ h=>absurd h (by decide)) (by rw[hF.r26];omega)
 have s:∀j,m1.rd j=if j=4 then 4*H0+1 else if j=26 then H0+1+xa.length else m0.rd j:=λ j=>by
  rw[e,Zby t1.ok (by decide) (by decide),t2,hF.r26]
 have A:∀a,m1.mv a=(S.takeM m0 4 xa).mv a:=λ a=>by rw[e,Zcn (by decide) (by decide)]
 have d:∀a,0<=a->a<1312->m1.mv a=m0.mv a:=λ a a0 l=>by
  rw[A];exact R a a0 (by omega)
 have r:m1.mv 5=38:=(d 5 (by decide) (by decide)).trans hF.m5;have o:RdyI [] [] F size m1 (H0+1+xa.length) (H0+half) []:=⟨w1,(d 7 (by decide) (by decide)).trans (hF.low 7 (by decide) (by decide)),by rw[s];rfl,by rw[s];exact hF.r27,by omega,by omega,by rw[r];exact .nil⟩
 have n:StrAt (S.wImgV true [] [] F size) m1.mv H0 xa:=⟨⟨by decide,by omega,λ j hj=>Zqx f (by omega) (by omega),by rw[A,t4]⟩,λ k L=>by rw[A];exact t5 k L⟩
 obtain⟨O,y,t,u,hm⟩:=Zl1 f o (p:=H0) (ws:=xa) (by rw[s];rfl) n (by omega) (by decide) (by omega) (by omega) (by omega) (N:=400000) (by decide);have hA:S.symA F size m0 xa=S.callP (S.wImgV true [] [] F size) m1 (S.kRt 25) 400000:=by rw[e];rfl
 rw[hA];rw[findW] at hm;simp only at hm;obtain⟨E,i⟩:=hm;obtain⟨C,z,q3,q4⟩:=Zqr f w1 ((S.wImgV true [] [] F size).lab kMapped);have g:∀a,(a<1056\/H0<=a)->¬(S.wImgV true [] [] F size).stk a:=λ a ha q=>by
  have C:=q.1;have z:=q.2;have e1:(S.wImgV true [] [] F size).lo=1056:=rfl;have e2:(S.wImgV true [] [] F size).hi=1312:=rfl;omega
 have mem:∀a,0<=a->a<size->(a<1056\/H0<=a)->(S.callP (S.wImgV true [] [] F size) m1 (S.kRt 25) 400000).mv a=y.mem a:=λ a a0 l T=>t.mem a a0 l (g a T)
 have v:=Zzu i (by rw[z];exact r);have c:∀a,0<=a->a<1056->a≠5->a≠6->a≠8->a≠16->(S.callP (S.wImgV true [] [] F size) m1 (S.kRt 25) 400000).mv a=m0.mv a:=λ a a0 l G M K B=>by
  rw[mem a a0 (by omega) (.inl l),i.old a G M K B (by omega),z];exact d a a0 (by omega)
 refine⟨O,E,?_,?_,(Zqy f hF.wd t u).1,Zjd v (mem 5 (by decide) (by omega) (.inl (by decide))) (λ a a0 l=>mem a (by omega) (by omega) (.inr (by omega))),?_,?_,?_,?_,?_,?_⟩
 .rw[t.reg 26 (by decide),i.r26]
 .rw[t.reg 27 (by decide),i.reg 27 (by decide) (by decide),C 27 (by decide),s]
  exact hF.r27
 .exact(c 2 (by decide) (by decide) (by decide) (by decide) (by decide) (by decide)).trans hF.m2
 .exact(c 3 (by decide) (by decide) (by decide) (by decide) (by decide) (by decide)).trans hF.m3
 .exact(c 4 (by decide) (by decide) (by decide) (by decide) (by decide) (by decide)).trans hF.m4
 .exact(mem 6 (by decide) (by omega) (.inl (by decide))).trans i.m6
 .exact(c 7 (by decide) (by decide) (by decide) (by decide) (by decide) (by decide)).trans (hF.low 7 (by decide) (by decide))
 .exact(mem 8 (by decide) (by omega) (.inl (by decide))).trans i.m8
include hb hbl
attribute [local irreducible] S.takeM S.againM S.Mach.mv S.Mach.rd S.Mach.putV S.Mach.setV
theorem Zek:∃H4,H4=H0+1+xa.length+xa.length+6/\S.WdV [] [] F size (S.symB F size m0 xa xb)/\(S.symB F size m0 xa xb).rd 4=4*H4+1/\(S.symB F size m0 xa xb).rd 26=H4+1+xb.length/\(S.symB F size m0 xa xb).rd 27=H0+half/\SymF (S.symB F size m0 xa xb).mv (H0+1+xa.length) xa /\
 (S.symB F size m0 xa xb).mv H4=32*xb.length+19/\(∀k:Nat,k<xb.length->(S.symB F size m0 xa xb).mv (H4+1+k)=xb.getD k 0)/\(∀a,0<=a->a<1056->a≠26->(S.symB F size m0 xa xb).mv a=(S.symA F size m0 xa).mv a):=by
 obtain⟨A,hA⟩:=Yx (S.symA F size m0 xa);have r:=Zce hF ha hal;have D:S.symB F size m0 xa xb=((S.takeM (S.againM m0 A) 4 xb).setV 4 (4*A.rd 26+1)).putV 26 (A.rd 4):=by rw[hA];rfl
 rw[D];rw[<- hA] at r⊢;obtain⟨-,g4,d,l,gw,B,-,-,-,-,-,-⟩:=r;have f:=hF.ok true;have hsz:=hF.hsz;have hhf:=hF.hhf;have E:=hF.h0;have he:=Zas f;have t:=f.size2;have s:(S.wImgV true [] [] F size).size=size:=rfl;obtain⟨H4,g⟩:=Yx (H0+1+xa.length+xa.length+6);rw[<- g] at d;obtain⟨t1,t2,t3,t4,t5,n⟩:=Zly f (H:=H4) (typ:=4) (ws:=xb) gw (λ x z=>by have:=hb x z;omega) ((Zhn m0 A 26).trans d) (by decide) (by omega) (by omega) (by omega);have w1:=Zd7 f t1 (i:=4) (v:=4*A.rd 26+1) (by decide) (λ h=>absurd h (by decide)) (by omega);have u:=Zgo f w1 (i:=26) (v:=A.rd 4) (by omega) (λ q=>by have:=(Zbm f).1 q;omega) (by omega);have o:=w1.len;have e:∀j,(((S.takeM (S.againM m0 A) 4 xb).setV 4 (4*A.rd 26+1)).putV 26 (A.rd 4)).rd j=if j=4 then 4*H4+1 else if j=26 then H4+1+xb.length else A.rd j:=λ j=>by
  rw[Zdz,Zby t1.ok (by decide) (by decide),t2,d,Zhn]
 have c:∀a,0<=a->(((S.takeM (S.againM m0 A) 4 xb).setV 4 (4*A.rd 26+1)).putV 26 (A.rd 4)).mv a=if a=26 then A.rd 4 else(S.takeM (S.againM m0 A) 4 xb).mv a:=λ a a0=>by
  rw[Ze2 (by decide) (by omega) a0,Zcn (by decide) (by decide)]
 refine⟨H4,g,u,by rw[e,if_pos rfl],by rw[e];rfl,by rw[e];exact l,Zjd B ?_ λ a a0 y=>?_,?_,λ k C=>?_,λ a a0 y G=>?_⟩
 .rw[c 5 (by decide),if_neg (by decide),n 5 (by decide) (by omega)]
  exact Zl0 m0 A 5
 .rw[c a (by omega),if_neg (by omega),n a (by omega) (by omega)]
  exact Zl0 m0 A a
 .rw[c H4 (by omega),if_neg (by omega),t4]
  omega
 .rw[c (H4+1+k) (by omega),if_neg (by omega)]
  exact t5 k C
 .rw[c a a0,if_neg G,n a a0 (by omega)]
  exact Zl0 m0 A a
end
end
section
theorem Zsw {l:List Int}{w:World}{e:Ending}{w':World}(h:Zfy l w e w'):Below w.heap.size w w'/\∃(A:Option Addr)(m c:Nat)(f:Int)(cs:List Int),e=.returned (.tuple #[.slice A m c,.int .i64 f])/\m=cs.length/\Reads w' w'.heap.size A (cs.map (Yu .i64))/\charsU l=cs.map wordU/\(∀x∈cs,0<=x/\x<=1114111)/\m<=l.length:=by
 obtain⟨hb,a⟩:=h;refine⟨hb,?_⟩
 cases hl:codesU l with
 | none =>
  rw[hl] at a;refine⟨none,0,0,4,[],a,rfl,λ hp=>by simp at hp,by unfold charsU;rw[hl];rfl,λ x d=>(by cases d),Yao _⟩
 | some cs =>
  rw[hl] at a;obtain⟨A,m,c,rfl,hm,g⟩:=a;have hf:=Zbk _ _ _ hl;exact⟨A,m,c,0,cs,rfl,hm,Zap g,by unfold charsU;rw[hl],λ x d=>Zqn (hf.2.1 x d),by rw[hm];exact hf.2.2⟩
theorem Znz:(prog.info? 31).map (λ i=>(i.zero,i.size,i.bytes))=some (some (.int .u32 0),1,4):=by kernel_rfl
theorem Zwx {cs:List Int}{k:Nat}{u:Int}(c:k<cs.length)(a:u=cs[k]):((cs.map wordU).take k).map (Yu .u32)++[Yu .u32 (16*u+2)]=((cs.map wordU).take (k+1)).map (Yu .u32):=by
 rw[Yan,Yaf,Ye c,Yba,a];rfl
theorem Z28 (s:ByteArray)(W:s.size<=100000)(w:World):Calls prog 23 #[.string s] w λ e w'=>∃(A:Option Addr)(m c:Nat),e=.returned (.slice A m c)/\m=(charsU (octs s)).length/\w'.ownsRow w.heap.size 31 1 (.slice A m c) m ((charsU (octs s)).map (Yu .u32))/\Below w.heap.size w w':=by
 go_enter func23,ntmps23
 go_wp2_with fail
 refine(Zlw s W w).mono ?_;rintro e w1 hp;obtain⟨r,A,m,c,ev,cs,rfl,hm,O,t,n,z⟩:=Zsw hp;have i:=Ya r;have I:=Ya hm;have R:=Ya O;have X:=Ya t;have D:=Ya n;rw[Zdl] at z;clear hp r hm O t n;go_wp2_with fail
 go_loopw [5,6] (λ T y wr=>∃(k:Nat)(B:Option Addr)(d:Nat),k<=m/\y=.int .i64 k/\T=.slice B k d/\Hid (wr.ownsRow w1.heap.size 31 1 (.slice B k d) k (((cs.map wordU).take k).map (Yu .u32)))/\Hid (Below w1.heap.size w1 wr)) (λ _ y _=>m-(intOf y).toNat)
 case atStart=>exact⟨0,none,0,Yao _,rfl,rfl,Ya ⟨rfl,.inl ⟨rfl,rfl⟩⟩,Ya (Yj _ _)⟩
 case round =>
  obtain⟨k,B,d,hk,rfl,rfl,K,l⟩:=hrel;by_cases E:k<m
  .have d1:decide ((k:Int)<(m:Int))=true:=decide_eq_true (by omega)
   have i3:(k:Int)<(m:Int):=by omega
   have f:k<cs.length:=by rw[<- I.out];exact E
   obtain⟨g,off,rfl,hg,a⟩:=R.out (by rw[Y8];omega);have C:=a k (.int .i64 cs[k]) (by rw[Yaf,Ye f];rfl);have M:=D.out cs[k] (Yas f);obtain⟨u,L⟩:=Yx cs[k];rw[<- L] at C M;have U:=Ya L;have V:wr.cell? ⟨g,off+k,none⟩=some (.int .i64 u):=(l.out.cell (p:=⟨g,off+k,none⟩) hg).trans C;have e1:IntKind.i64.wrap (16*u)=16*u:=Ym _ ⟨by omega,by omega⟩;have e3:IntKind.i64.wrap (16*u+2)=16*u+2:=Ym _ ⟨by omega,by omega⟩;have e4:IntKind.u32.wrap (16*u+2)=16*u+2:=Ybo _ ⟨by omega,by omega⟩;have e5:(16*u+2)%4294967296=16*u+2:=by omega
   have e2:IntKind.i64.wrap ((k:Int)+1)=(k:Int)+1:=Ym _ ⟨by omega,by omega⟩;have x:=l.out.size;clear a C L;go_wp2_with (at_builtin;refine Zl rfl (.tmp 18) (.tmp 26) _ rfl w1.heap.size 31 Znz underlying28 rfl (by decide) #[.int .u32 (16*u+2)] _ _ _ rfl K.out rfl rfl rfl (by simp[Yt]) (by simp only[maxLen];omega) (by omega) x ?_;intro v' Q j v q o;obtain⟨N,c2,rfl⟩:=Za j;have G:Hid (Q.ownsRow w1.heap.size 31 1 (.slice N (k+1) c2) (k+1) (((cs.map wordU).take (k+1)).map (Yu .u32))):=Ya (Zwi j (Zwx f U.out));have J:=Ya (l.out.trans q);clear j v q o K l)
   go_roundw
   case rel=>exact⟨k+1,N,c2,by omega,by go_num,rfl,G,J⟩
   case measure=>simp[intOf] <;> omega
  .have hke:k=m:=by omega
   subst hke;have d1:decide ((k:Int)<(k:Int))=false:=by simp
   go_wp2_with fail
   go_ret
   have h:=Zo K.out i.out.size;rw[show(cs.map wordU).take k=cs.map wordU from Yau (by rw[Y8,<- I.out];exact Yc _)] at h;rw[X.out];exact⟨B,k,d,rfl,by rw[Y8];exact I.out,h,i.out.trans (l.out.mono i.out.size)⟩
theorem Z6f (typ n:Int)(ht:0<=typ/\typ<8)(hn:0<=n/\n<=1000000)(w:World):Calls prog 44 #[.int .i64 typ,.int .i64 n] w λ e w'=>e=.returned (.int .u32 (32*n+4*typ+3))/\w=w':=by
 have e1:IntKind.i64.wrap (32*n)=32*n:=Ym _ ⟨by omega,by omega⟩;have e2:IntKind.i64.wrap (4*typ)=4*typ:=Ym _ ⟨by omega,by omega⟩;have e3:IntKind.i64.wrap (32*n+4*typ)=32*n+4*typ:=Ym _ ⟨by omega,by omega⟩;have e4:IntKind.i64.wrap (32*n+4*typ+3)=32*n+4*typ+3:=Ym _ ⟨by omega,by omega⟩;have e5:IntKind.u32.wrap (32*n+4*typ+3)=32*n+4*typ+3:=Ybo _ ⟨by omega,by omega⟩;have e6:(32*n+4*typ+3)%4294967296=32*n+4*typ+3:=by omega
 go_enter func44,ntmps44
 go_wp2_with fail
 go_ret
 exact⟨rfl,rfl⟩
theorem Zkw:∀(l:List Int)(m:S.Mach)(a x:Int),putsV m a (l++[x])=(putsV m a l).putV (a+l.length) x
 | [],m,a,x=>by
  show m.putV a x=m.putV (a+((0:Nat):Int)) x
  rw[show a+((0:Nat):Int)=a by omega]
 | y::l,m,a,x=>by
  show putsV (m.putV a y) (a+1) (l++[x])=_
  rw[Zkw l (m.putV a y) (a+1) x]
  show(putsV (m.putV a y) (a+1) l).putV _ x=(putsV (m.putV a y) (a+1) l).putV _ x
  rw[show a+1+(l.length:Int)=a+((y::l).length:Int) by rw[Yk];omega]
section
variable {w:World}{F:Nat->Prop}{lo b p:Nat}{H half:Int}{P:List (ByteArray×Int)}{m:S.Mach}
theorem Z6g (typ:Int)(A:Option Addr)(n c:Nat)(ws:List Int)(hn:n=ws.length)(ht:0<=typ/\typ<8)(hl:n<=100000)(G:∀x∈ws,0<=x/\x<=4294967295)(B:KAt w lo b p F H half P m)(Y:0<=m.rd 26/\m.rd 26<=100000000)(hR:Reads w w.heap.size A (ws.map (Yu .u32)))(hA:∀k o s,A=some ⟨k,o,s⟩->¬F k) :
 Calls prog 22 #[.pointer (some ⟨b,0,none⟩),.int .i64 typ,.slice A n c] w λ e w'=>e=.returned (.int .u32 (4*m.rd 26+1))/\KAt w' lo b p F H half P (S.takeM m typ ws)/\Only F w w':=by
 obtain⟨a,ha⟩:=Yx (m.rd 26);have HA:=Ya ha;have er:m.regV 26=a:=by rw[Zmk (by decide) (by decide)];exact ha.symm
 rw[<- ha] at Y⊢;have HK:=Ya B;have HR:=Ya hR;have a4:=Ya hA;have HN:=Ya hn;have HW:=Ya G;have z:=Zrp 26 B;rw[er] at z;have I:=Ya z;have hbl:=B.blt;obtain⟨_,_,_,_,_,_,U,T,Q,V,X⟩:=B.cells;have s1:IntKind.i64.wrap a=a:=Ym _ ⟨by omega,by omega⟩;clear ha B hR hA hn G z er;go_enter func22,ntmps22
 go_wp2_with fail
 refine I.out.mono ?_;rintro e _ ⟨rfl,rfl⟩;have a0:=Ya (λ(W:World)=>Z6f typ n ht ⟨by omega,by omega⟩ W);go_upto_region 2 with fail
 refine Zj 10 (by kernel_rfl) (by kernel_rfl) ?_;have hE:=Zk w;simp only[Yaq,Yaj,Ya1,Ya0]
 repeat (first|go_big_quiet_step ((go_at_call 44;exact Zb0 (a0.out _))))
 refine wpQuiet_nil ?_;rintro w1 ⟨⟨_,v⟩,rfl⟩;have D:=Ya (HK.out.below v);have K:=Ya (Only.of_below (F:=F) v);clear hE v U T Q V X hbl;go_wp2_with fail
 refine(Zcv a (32*n+4*typ+3) D.out ⟨by omega,by omega⟩).mono ?_;rintro e w2 ⟨rv,rfl,J,N⟩;have O:Hid (KAt w2 lo b p F H half P (putsV m a ((32*(n:Int)+4*typ+3)::ws.take 0))):=Ya J;have C:=Ya (K.out.trans N λ _ _ q=>q);clear J N D K I HK;go_wp2_with fail
 go_loopw [8] (λ Z wl=>∃q:Nat,q<=n/\Z=.int .i64 q/\Hid (KAt wl lo b p F H half P (putsV m a ((32*(n:Int)+4*typ+3)::ws.take q)))/\Hid (Only F w wl)) (λ Z _=>n-(intOf Z).toNat)
 case atStart=>exact⟨0,Yao _,rfl,O,C⟩
 case round =>
  clear O C;obtain⟨q,hq,rfl,h,d⟩:=hrel;have hbl:=h.out.blt;obtain⟨_,_,_,_,_,_,U,T,Q,V,X⟩:=h.out.cells;by_cases a3:q<n
  .have d1:decide ((q:Int)<(n:Int))=true:=decide_eq_true (by omega)
   have i3:(q:Int)<(n:Int):=by omega
   have r:q<ws.length:=by rw[<- HN.out];exact a3
   obtain⟨g,off,rfl,hg,i⟩:=HR.out (by rw[Y8];omega);have hx:=i q (.int .u32 ws[q]) (by rw[Yaf,Ye r];rfl);have L:=HW.out ws[q] (Yas r);obtain⟨u,hu⟩:=Yx ws[q];rw[<- hu] at hx L;have HU:=Ya hu;have a2:wr.cell? ⟨g,off+q,none⟩=some (.int .u32 u):=(World.cell?_of_block (a:=⟨g,off+q,none⟩) (d.out.block g hg (a4.out g off none rfl))).trans hx;have a1:g<wr.heap.size:=Ys hg d.out.size;have p1:IntKind.i64.wrap (a+1)=a+1:=Ym _ ⟨by omega,by omega⟩;have p2:IntKind.i64.wrap (a+1+q)=a+1+q:=Ym _ ⟨by omega,by omega⟩;have p3:IntKind.i64.wrap ((q:Int)+1)=(q:Int)+1:=Ym _ ⟨by omega,by omega⟩;clear i hx hu;go_upto_region 6 with fail
   refine Zj 13 (by kernel_rfl) (by kernel_rfl) ?_;have hE:=Zk wr;simp only[Yaq,Yaj,Ya1,Ya0]
   repeat (first|go_big_quiet_step (fail))
   refine wpQuiet_nil ?_;rintro w4 ⟨⟨_,t⟩,rfl⟩;have E:=Ya (h.out.below t);have M:=Ya (d.out.trans (Only.of_below (F:=F) t) λ _ _ q=>q);clear hE t U T Q V X hbl a1 a2 h d;go_wp2_with fail
   try simp only[p1,p2]
   refine(Zcv (a+1+q) u E.out L).mono ?_;rintro e R ⟨rv,rfl,f,j⟩;have l:Hid (KAt R lo b p F H half P (putsV m a ((32*(n:Int)+4*typ+3)::ws.take (q+1)))):=Ya (by
    have e:=Zkw ((32*(n:Int)+4*typ+3)::ws.take q) m a u;rw[Yk,Yaa,Nat.min_eq_left (by omega),show a+((q+1:Nat):Int)=a+1+q by omega] at e;rw[Yan,Ye r]
    show KAt R lo b p F H half P (putsV m a (((32*(n:Int)+4*typ+3)::ws.take q)++[ws[q]]))
    rw[<- HU.out,e];exact f)
   have y:=Ya (M.out.trans j λ _ _ q=>q);clear f j E M;go_wp2_with fail
   go_roundw
   case rel=>exact⟨q+1,by omega,by go_num,l,y⟩
   case measure=>simp[intOf] <;> omega
  .have hke:q=n:=by omega
   subst hke;have d1:decide ((q:Int)<(q:Int))=false:=by simp
   have f1:IntKind.u32.wrap (a+1)=a+1:=Ybo _ ⟨by omega,by omega⟩;have f2:IntKind.u32.wrap (q:Int)=(q:Int):=Ybo _ ⟨by omega,by omega⟩;have f3:IntKind.u32.wrap (a+1+q)=a+1+q:=Ybo _ ⟨by omega,by omega⟩;have f4:IntKind.u32.wrap (4*a)=4*a:=Ybo _ ⟨by omega,by omega⟩;have f5:IntKind.u32.wrap (4*a+1)=4*a+1:=Ybo _ ⟨by omega,by omega⟩;have f6:(q:Int)%4294967296=(q:Int):=by omega
   go_wp2_with fail
   refine(Zeq 26 (a+1+q) h.out ⟨by omega,by omega⟩).mono ?_;rintro e R ⟨a5,rfl,f,j⟩;have l:Hid (KAt R lo b p F H half P (S.takeM m typ ws)):=Ya (by
    unfold S.takeM;rw[<- HA.out,<- HN.out];rw[Yau (by rw[<- HN.out];exact Yc _)] at f;exact f)
   have y:=Ya (d.out.trans j λ _ _ q=>q);clear f j h d U T Q V X hbl;go_wp2_with fail
   go_ret
   exact⟨by rw[Int.mul_comm 4 a];rfl,l.out,y.out⟩
end
end
structure S.Tz (s:ByteArray)(p:Nat)(neg:Bool)(l:List Int):Prop where
 len:s.size=p+l.length
 pos:0<l.length
 dig:DgB 10 l
 at_:∀i (hi:i<s.size),p<=i->((s[i]'hi).toNat:Int)=48+l.getD (s.size-1-i) 0
 sgn:(p=0/\neg=false)\/(p=1/\neg=true/\∀h:0<s.size,((s[0]'h).toNat:Int)=45)
def S.tz (neg:Bool)(l:List Int):Int:=if neg=true then -dvB 10 l else dvB 10 l
theorem Ints.set {w:World}{B:Nat}{A:Option Addr}{xs:List Int}(h:Ints w B A xs){g o:Nat}(c:∀b off,A=some ⟨b,off,none⟩->b≠g)(v:Value):Ints (w.setCell ⟨g,o,none⟩ v) B A xs:=λ hp=>by
 obtain⟨b,off,e,hb,d⟩:=h hp;exact⟨b,off,e,hb,λ i x f=>(World.cell?_of_block (a:=⟨b,off+i,none⟩) (heap_setCell_other w ⟨g,o,none⟩ b v (c b off e))).trans (d i x f)⟩
theorem Zwy {w:World}{base:Nat}{e:TypeId}{size n c:Nat}{A:Option Addr}{xs:List Value}(h:w.ownsRow base e size (.slice A n c) n xs):n<=c:=by
 rcases h.2 with⟨_,h1⟩|⟨g,cap,d,f,_,_,a,_⟩
 .omega
 .cases f
  exact a
theorem Zwz {neg:Bool}{l:List Int}{m:Nat}(hd:DgB 10 l)(h:Top l m):Nz (neg && decide (0<m)) (l.take m) (tz neg l):=by
 have a:=Z6o hd h;have h2:=Zbd (show(0:Int)<=10 by decide) hd;have d:(l.take m).length=m:=by rw[Yaa];have:=h.1;omega
 cases neg with
 | false =>
  have e:tz false l=dvB 10 l:=if_neg (by decide);rw[e];refine⟨?_,?_⟩
  .rw[if_neg (by omega)];exact a
  .rw[Bool.false_and,decide_eq_false (show ¬dvB 10 l<0 by omega)]
 | true =>
  have e:tz true l=-dvB 10 l:=if_pos rfl;rw[e];by_cases c:m=0
  .have h0:dvB 10 l=0:=Z55 a (by rw[d];exact c)
   rw[h0] at a⊢;subst c;exact⟨a,rfl⟩
  .have h0:1<=dvB 10 l:=Z54 (by decide) a (by omega)
   refine⟨?_,?_⟩
   .rw[if_pos (by omega),Int.neg_neg];exact a
   .rw[decide_eq_true (show 0<m by omega),decide_eq_true (show -dvB 10 l<0 by omega)];rfl
theorem Zpl (s:ByteArray)(p:Nat)(neg:Bool)(l:List Int)(x:Tz s p neg l)(hs:s.size<=1000000)(w:World) :
 Calls prog 40 #[.string s] w λ e w'=>∃(Q:Bool)(A:Option Addr)(m c:Nat)(l':List Int),e=.returned (.tuple #[Zjj Q A m c,.int .i64 0])/\NumW w' w'.heap.size (tz neg l) Q A m c l'/\Below w.heap.size w w':=by
 have T:=x.pos;have R:=x.len;rcases x.sgn with⟨rfl,rfl⟩|⟨rfl,rfl,q3⟩
 .have h0:0<s.size:=by omega
  have Ht:=Ya (show Tz s 0 false l from x);have N:s.size=0+l.length:=x.len;have C:=Ya N;have a2:=Ya x.pos;have W:=x.pos;have n0:((s.size:Int)==0)=false:=beq_eq_false_iff_ne.2 (by omega);have n1:((s.size:Int)==0)=false:=beq_eq_false_iff_ne.2 (by omega);have d0:decide ((0:Int)<s.size)=true:=decide_eq_true (by omega);have d1:decide (0<s.size)=true:=decide_eq_true (by omega);have a5:IntKind.i64.wrap ((s.size:Int)-1)=(s.size:Int)-1:=by rw[Ym _ (by omega)]
  have hc:=x.at_ 0 h0 (by omega);have L:=Zji (by decide) x.dig (s.size-1-0);have a4:(((s[0]'h0).toNat:Int)==45)=false:=by rw[hc];exact beq_eq_false_iff_ne.2 (by omega)
  have b5:(((s[0]'h0).toNat:Int)==43)=false:=by rw[hc];exact beq_eq_false_iff_ne.2 (by omega)
  clear hc L R T;have b0:(0:Int)<s.size:=by omega
  clear x N W;go_enter func40,ntmps40
  go_wp2_with fail
  go_loopw [6,7] (λ v6 v7 wr=>∃(k:Int)(r:Option Addr)(q c2:Nat),0-1<=k/\k<s.size/\v7=.int .i64 k/\v6=.slice r q c2/\Hid ((q:Int)=s.size-1-k)/\Hid (wr.ownsRow (w.heap.size+1) 3 1 (.slice r q c2) q ((l.take q).map (Yu .i64)))/\Hid (Below w.heap.size w wr)/\wr.heap[w.heap.size]?=some (.cells #[.bool false,.slice none 0 0] 88 (0,0))) (λ _ v7 _=>(intOf v7+1).toNat)
  case atStart =>
   exact⟨(s.size:Int)-1,none,0,0,by omega,by omega,rfl,rfl,Ya (by omega),Ya (World.ownsRow_nil _ _ _ _),Ya ((Yj _ _).alloc (Yc _) _),heap_alloc_new w _⟩
  case round =>
   obtain⟨k,r,q,c2,a6,b4,rfl,rfl,hq,f,j,n⟩:=hrel;have D:w.heap.size+1<=wr.heap.size:=(Y3.1 n).1;by_cases c0:0<=k
   .obtain⟨i,rfl⟩:=Ybp (show 0<=k by omega)
    have hi:i<s.size:=by omega
    have B:=Ht.out.at_ i hi (by omega);have X:=hq.out;have E:s.size-1-i=q:=by omega
    rw[E] at B;have L:=Zji (by decide) Ht.out.dig q;obtain⟨d,hd⟩:=Yx (l.getD q 0);rw[<- hd] at B L;have Hd:=Ya hd;have g:q<l.length:=by have:=C.out;omega
    have Z:=Ya (show l.take (q+1)=l.take q++[d] by rw[Yan,Ye g,hd,Yh,Ye g];rfl);have e2:IntKind.i64.wrap ((i:Int)-1)=(i:Int)-1:=by rw[Ym _ (by omega)]
    have e3:IntKind.u8.wrap (48+d-48)=d:=by rw[IntWalk.u8_in _ (by omega)];omega
    have b1:decide (48+d<48)=false:=decide_eq_false (by omega);have b2:decide (57<48+d)=false:=decide_eq_false (by omega);have b3:decide (48+d>57)=false:=decide_eq_false (by omega);have i3:(i:Int)<(s.size:Int):=by omega
    have hz:=j.out.size;have I:q<=1000000:=by omega
    clear hd X E g;generalize hch:((s[i]'hi).toNat:Int)=ch at *;subst B;go_wp2_with (at_builtin;refine Zl rfl (.tmp 51) (.tmp 57) _ rfl (w.heap.size+1) 3 Zlo underlying69 rfl (by decide) #[.int .i64 d] _ _ _ rfl f.out rfl rfl rfl (by simp[Yt]) (by simp only[maxLen];omega) (by omega) D ?_;intro v' w7 J a8 G a3;obtain⟨A8,c8,rfl⟩:=Za J)
    go_roundw
    case rel=>exact⟨(i:Int)-1,A8,q+1,c8,by omega,by omega,by go_num,rfl,Ya (by have:=hq.out;omega),Ya (by rw[Z.out,Yba];exact J),Ya (j.out.trans (G.mono (Ydd _))),(G.block w.heap.size (Ya6 _)).trans n⟩
    case measure=>simp[intOf] <;> omega
   .have ek:k=0-1:=by omega
    have g:q=l.length:=by have:=hq.out;have:=C.out;omega
    have O:=Ya g;have I:q<=1000000:=by have:=C.out;omega
    have HI:=Ya (show Ints wr wr.heap.size r l from by
     have h:=Ints.of_own f.out;rw[g,Yap] at h;exact h)
    have t:=Ya (Zee f.out);have u:=Ya (Zwy f.out);subst ek;clear g;go_wp2_with fail
    refine(Z04 false r q c2 l O.out wr wr.heap.size HI.out (Yc _) I t.out u.out).mono ?_;rintro e z ⟨m,hm,rfl,o⟩;have Y:=Ya hm;have K:=Ya o;have a0:=o.size;have a:=(o.block w.heap.size D).trans n;have V:z.cell? ⟨w.heap.size,0,none⟩=some (.bool false):=by rw[Yb a];rfl
    have U:z.cell? ⟨w.heap.size,1,none⟩=some (.slice none 0 0):=by rw[Yb a];rfl
    have a9:z.frozen? ⟨w.heap.size,0,none⟩=false:=frozen_of_row z w.heap.size 0 _ _ a;have a7:z.frozen? ⟨w.heap.size,1,none⟩=false:=frozen_of_row z w.heap.size 1 _ _ a;clear hm o;unfold Zjj;go_wp2_with fail
    have M:∀b off,r=some ⟨b,off,none⟩->b≠w.heap.size:=λ b off e=>by
     subst e;have:=(f.out.lt b rfl).1;omega
    refine bodyPost_ret (v:=.tuple #[Zjj (false && decide (0<m)) r m c2,.int .i64 0]) (by simp[results,results40,go_sem,Zjj,V,U]) rfl ?_;have a1:(l.take m).length=m:=by rw[Yaa];have:=Y.out.1;omega
    have y:=Y.out.1;refine⟨_,r,m,c2,l.take m,rfl,⟨Zwz Ht.out.dig Y.out,a1.symm,by rw[<- O.out] at y;omega,?_,λ e=>by have:=t.out e;rw[<- O.out] at y;omega,by have:=u.out;rw[<- O.out] at y;omega⟩,?_⟩
    .exact((((HI.out.take_ m).below K.out).set M _).set M _).more (Yz a0 (((Yj 0 z).setCell (Yao _) _).setCell (Yao _) _).size)
    .exact((j.out.trans (K.out.mono j.out.size)).setCell (Yc _) _).setCell (Yc _) _
 .have h0:0<s.size:=by omega
  have Ht:=Ya (show Tz s 1 true l from x);have N:s.size=1+l.length:=x.len;have C:=Ya N;have a2:=Ya x.pos;have W:=x.pos;have n0:((s.size:Int)==0)=false:=beq_eq_false_iff_ne.2 (by omega);have n1:((s.size:Int)==1)=false:=beq_eq_false_iff_ne.2 (by omega);have d0:decide ((0:Int)<s.size)=true:=decide_eq_true (by omega);have d1:decide (0<s.size)=true:=decide_eq_true (by omega);have a5:IntKind.i64.wrap ((s.size:Int)-1)=(s.size:Int)-1:=by rw[Ym _ (by omega)]
  have a4:(((s[0]'h0).toNat:Int)==45)=true:=by rw[q3 h0];rfl
  clear q3 R T;have b0:(1:Int)<s.size:=by omega
  clear x N W;go_enter func40,ntmps40
  go_wp2_with fail
  go_loopw [6,7] (λ v6 v7 wr=>∃(k:Int)(r:Option Addr)(q c2:Nat),1-1<=k/\k<s.size/\v7=.int .i64 k/\v6=.slice r q c2/\Hid ((q:Int)=s.size-1-k)/\Hid (wr.ownsRow (w.heap.size+1) 3 1 (.slice r q c2) q ((l.take q).map (Yu .i64)))/\Hid (Below w.heap.size w wr)/\wr.heap[w.heap.size]?=some (.cells #[.bool false,.slice none 0 0] 88 (0,0))) (λ _ v7 _=>(intOf v7+1).toNat)
  case atStart =>
   exact⟨(s.size:Int)-1,none,0,0,by omega,by omega,rfl,rfl,Ya (by omega),Ya (World.ownsRow_nil _ _ _ _),Ya ((Yj _ _).alloc (Yc _) _),heap_alloc_new w _⟩
  case round =>
   obtain⟨k,r,q,c2,a6,b4,rfl,rfl,hq,f,j,n⟩:=hrel;have D:w.heap.size+1<=wr.heap.size:=(Y3.1 n).1;by_cases c0:1<=k
   .obtain⟨i,rfl⟩:=Ybp (show 0<=k by omega)
    have hi:i<s.size:=by omega
    have B:=Ht.out.at_ i hi (by omega);have X:=hq.out;have E:s.size-1-i=q:=by omega
    rw[E] at B;have L:=Zji (by decide) Ht.out.dig q;obtain⟨d,hd⟩:=Yx (l.getD q 0);rw[<- hd] at B L;have Hd:=Ya hd;have g:q<l.length:=by have:=C.out;omega
    have Z:=Ya (show l.take (q+1)=l.take q++[d] by rw[Yan,Ye g,hd,Yh,Ye g];rfl);have e2:IntKind.i64.wrap ((i:Int)-1)=(i:Int)-1:=by rw[Ym _ (by omega)]
    have e3:IntKind.u8.wrap (48+d-48)=d:=by rw[IntWalk.u8_in _ (by omega)];omega
    have b1:decide (48+d<48)=false:=decide_eq_false (by omega);have b2:decide (57<48+d)=false:=decide_eq_false (by omega);have b3:decide (48+d>57)=false:=decide_eq_false (by omega);have i3:(i:Int)<(s.size:Int):=by omega
    have hz:=j.out.size;have I:q<=1000000:=by omega
    clear hd X E g;generalize hch:((s[i]'hi).toNat:Int)=ch at *;subst B;go_wp2_with (at_builtin;refine Zl rfl (.tmp 51) (.tmp 57) _ rfl (w.heap.size+1) 3 Zlo underlying69 rfl (by decide) #[.int .i64 d] _ _ _ rfl f.out rfl rfl rfl (by simp[Yt]) (by simp only[maxLen];omega) (by omega) D ?_;intro v' w7 J a8 G a3;obtain⟨A8,c8,rfl⟩:=Za J)
    go_roundw
    case rel=>exact⟨(i:Int)-1,A8,q+1,c8,by omega,by omega,by go_num,rfl,Ya (by have:=hq.out;omega),Ya (by rw[Z.out,Yba];exact J),Ya (j.out.trans (G.mono (Ydd _))),(G.block w.heap.size (Ya6 _)).trans n⟩
    case measure=>simp[intOf] <;> omega
   .have ek:k=1-1:=by omega
    have g:q=l.length:=by have:=hq.out;have:=C.out;omega
    have O:=Ya g;have I:q<=1000000:=by have:=C.out;omega
    have HI:=Ya (show Ints wr wr.heap.size r l from by
     have h:=Ints.of_own f.out;rw[g,Yap] at h;exact h)
    have t:=Ya (Zee f.out);have u:=Ya (Zwy f.out);subst ek;clear g;go_wp2_with fail
    refine(Z04 true r q c2 l O.out wr wr.heap.size HI.out (Yc _) I t.out u.out).mono ?_;rintro e z ⟨m,hm,rfl,o⟩;have Y:=Ya hm;have K:=Ya o;have a0:=o.size;have a:=(o.block w.heap.size D).trans n;have V:z.cell? ⟨w.heap.size,0,none⟩=some (.bool false):=by rw[Yb a];rfl
    have U:z.cell? ⟨w.heap.size,1,none⟩=some (.slice none 0 0):=by rw[Yb a];rfl
    have a9:z.frozen? ⟨w.heap.size,0,none⟩=false:=frozen_of_row z w.heap.size 0 _ _ a;have a7:z.frozen? ⟨w.heap.size,1,none⟩=false:=frozen_of_row z w.heap.size 1 _ _ a;clear hm o;unfold Zjj;go_wp2_with fail
    have M:∀b off,r=some ⟨b,off,none⟩->b≠w.heap.size:=λ b off e=>by
     subst e;have:=(f.out.lt b rfl).1;omega
    refine bodyPost_ret (v:=.tuple #[Zjj (true && decide (0<m)) r m c2,.int .i64 0]) (by simp[results,results40,go_sem,Zjj,V,U]) rfl ?_;have a1:(l.take m).length=m:=by rw[Yaa];have:=Y.out.1;omega
    have y:=Y.out.1;refine⟨_,r,m,c2,l.take m,rfl,⟨Zwz Ht.out.dig Y.out,a1.symm,by rw[<- O.out] at y;omega,?_,λ e=>by have:=t.out e;rw[<- O.out] at y;omega,by have:=u.out;rw[<- O.out] at y;omega⟩,?_⟩
    .exact((((HI.out.take_ m).below K.out).set M _).set M _).more (Yz a0 (((Yj 0 z).setCell (Yao _) _).setCell (Yao _) _).size)
    .exact((j.out.trans (K.out.mono j.out.size)).setCell (Yc _) _).setCell (Yc _) _
theorem Zpm {b:Int}(hb:1<=b){l:List Int}(hd:DgB b l)(q:Nat):0<=dvB b (l.drop q)/\dvB b (l.drop q)<=dvB b l:=by
 have f:=Zbd (show 0<=b by omega) (l:=l.drop q) λ d a=>hd d (List.mem_of_mem_drop a)
 refine⟨f,?_⟩;by_cases c:q<=l.length
 .have e:dvB b l=dvB b (l.take q++l.drop q):=by rw[List.take_append_drop]
  rw[Zl4] at e;have h2:=Zbd (show 0<=b by omega) (Zl5 hd q);have h3:(0:Int)<b^(l.take q).length:=Int.pow_pos (by omega);have h4:=Int.mul_le_mul_of_nonneg_right (show 1<=b^(l.take q).length by omega) f;omega
 .rw[List.drop_eq_nil_of_le (by omega)]
  exact Zbd (by omega) hd
theorem Z29 (neg:Bool)(A:Option Addr)(N c:Nat)(l:List Int)(z:Int)(w:World)(B:Nat)(hB:B<=w.heap.size)(h:NumW w B z neg A N c l)(hz:-1000000000000000000<=z/\z<=1000000000000000000) :
 Calls prog 42 #[Zjj neg A N c] w λ e w'=>e=.returned (.int .i64 z)/\Below w.heap.size w w':=by
 have H:=Ya h;obtain⟨⟨o,V⟩,Q,hf,D,_,_⟩:=h;have W:=Ya Q;have R:=Ya o;have U:=Ya V;have L:(if z<0 then -z else z)<=1000000000000000000:=by split <;> omega
 obtain⟨n,j⟩:∃n,n=(if z<0 then -z else z):=⟨_,rfl⟩
 rw[<- j] at L;have T:=Ya j;have d:=λ q=>Zpm (show(1:Int)<=10 by decide) o.1 q
 have g:=Ya d;have Hv:=Ya (show dvB 10 l=n by rw[o.2.2,j]);clear o V Q D j d;have Y:IntKind.i64.wrap ((N:Int)-1)=(N:Int)-1:=by rw[Ym _ (by omega)]
 unfold Zjj;go_enter func42,ntmps42
 go_wp2_with fail
 go_loopw [3,4] (λ Z s wr=>∃k v:Int,-1<=k/\k<N/\s=.int .i64 k/\Z=.int .i64 v/\Hid (v=dvB 10 (l.drop (k+1).toNat))/\∃q,wr=(w.alloc (.cells #[.bool neg,.slice A N c] 88)).drewN q) (λ _ s _=>(intOf s+1).toNat)
 case atStart =>
  refine⟨(N:Int)-1,0,by omega,by omega,rfl,rfl,Ya ?_,0,rfl⟩;rw[show((N:Int)-1+1).toNat=N by omega,List.drop_eq_nil_of_le (by rw[<- W.out];exact Yc _)];rfl
 case round =>
  obtain⟨k,v,a0,a3,rfl,rfl,O,q0,rfl⟩:=hrel;by_cases c0:0<=k
  .obtain⟨q,rfl⟩:=Ybp c0
   have hq:q<N:=by omega
   obtain⟨b,off,C,t,a⟩:=H.out.at_.at_ (k:=q) (by rw[<- W.out];exact hq);obtain⟨u,r⟩:∃x,x=l.getD q 0:=⟨_,rfl⟩
   rw[<- r] at a;have Hu:=Ya r;have G:=Zji (by decide) R.out.1 q;rw[<- r] at G;have K:=g.out q;have E:=g.out (q+1);have y:=Zza (b:=10) l q;have f:=O.out;rw[show((q:Int)+1).toNat=q+1 by omega] at f;have I:=Ya (show 10*v+u=dvB 10 (l.drop q) by omega);have a2:0<=10*v+u/\10*v+u<=1000000000000000000:=by have:=Hv.out;omega
   have X:0<=v:=by omega
   have e2:IntKind.i64.wrap ((q:Int)-1)=(q:Int)-1:=by rw[Ym _ (by omega)]
   have e3:IntKind.i64.wrap (q:Int)=(q:Int):=by rw[Ym _ (by omega)]
   have i3:(q:Int)<(N:Int):=by omega
   have i4:(0:Int)<=(q:Int):=by omega
   have e4:IntKind.i64.wrap (10*v)=10*v:=by rw[Ym _ (by omega)]
   have e5:IntKind.i64.wrap (10*v+u)=10*v+u:=by rw[Ym _ (by omega)]
   have a1:(w.alloc (.cells #[.bool neg,.slice A N c] 88)).cell? ⟨b,off+q,none⟩=some (.int .i64 u):=(((Yj B w).alloc hB _).cell (p:=⟨b,off+q,none⟩) t).trans a;have a4:b<w.heap.size:=by omega
   subst C;clear r K E y f;go_wp2_with fail
   go_roundw
   case rel =>
    refine⟨(q:Int)-1,10*v+u,by omega,by omega,by go_num,rfl,Ya ?_,_,rfl⟩;rw[I.out,show((q:Int)-1+1).toNat=q by omega]
   case measure=>simp[intOf] <;> omega
  .have ek:k=-1:=by omega
   subst ek;have i:v=n:=by
    have:=O.out;rw[show((-1:Int)+1).toNat=0 by decide,Ya0,Hv.out] at this;exact this
   have e4:IntKind.i64.wrap (-v)=-v:=by rw[Ym _ (by have:=(Zbd (show(0:Int)<=10 by decide) R.out.1);have:=Hv.out;omega)]
   have M:=Ya i;clear i
   cases neg with
   | false =>
    have J:=Ya (show v=z by rw[M.out,T.out,if_neg (of_decide_eq_false U.out.symm)]);go_wp2_with fail
    go_ret
    exact⟨by rw[<- J.out];rfl,by repeat (first|exact(Yj _ _).alloc (Yc _) _|refine below_drewN ?_ _)⟩
   | true =>
    have J:=Ya (show -v=z by rw[M.out,T.out,if_pos (of_decide_eq_true U.out.symm),Int.neg_neg]);go_wp2_with fail
    go_ret
    exact⟨by rw[<- J.out];rfl,by repeat (first|exact(Yj _ _).alloc (Yc _) _|refine below_drewN ?_ _)⟩
theorem Zzo (s1 Y:ByteArray)(p1 p2:Nat)(o E:Bool)(q k2:List Int)(K:Tz s1 p1 o q)(U:Tz Y p2 E k2)(a3:s1.size<=1000000)(Z:Y.size<=1000000)(neg:Bool)(A:Option Addr)(N c:Nat)(l:List Int)(z:Int)(w:World)(B:Nat)(hB:B<=w.heap.size)(h:NumW w B z neg A N c l) :
 Calls prog 41 #[Zjj neg A N c,.string s1,.string Y] w λ e w'=>e=.returned (.bool (decide (tz o q<=z) && decide (z<=tz E k2)))/\Below w.heap.size w w':=by
 have H:=Ya h;have H1:=Ya K;have H2:=Ya U;clear h K U;unfold Zjj;go_enter func41,ntmps41
 go_wp2_with fail
 refine(Zpl s1 p1 o q H1.out a3 _).mono ?_;rintro e w1 ⟨g,W,m1,c1,l1,rfl,L,u⟩;have a8:=Ya L;have R:=(Yj w.heap.size w).alloc (Yc _) (.cells #[.bool neg,.slice A N c] 88);have j:w.heap.size<(w.alloc (.cells #[.bool neg,.slice A N c] 88)).heap.size:=by simp
 have a4:=Ya (R.trans (u.mono (Ya5 j)));have C:=(u.block w.heap.size j).trans (heap_alloc_new w _);have Q:w.heap.size<w1.heap.size:=Ys j u.size;clear L u;unfold Zjj;go_wp2_with fail
 refine(Zpl Y p2 E k2 H2.out Z _).mono ?_;rintro e k ⟨i,X,m2,c2,l2,rfl,J,s⟩;have a1:=Ya J;have V:=(Yj w1.heap.size w1).alloc (Yc _) (.cells #[.bool g,.slice W m1 c1] 88);have d:w1.heap.size<(w1.alloc (.cells #[.bool g,.slice W m1 c1] 88)).heap.size:=by simp
 have f:=Ya (V.trans (s.mono (Ya5 d)));have y:=(s.block w1.heap.size d).trans (heap_alloc_new w1 _);have n:=(f.out.block w.heap.size Q).trans C;have x:w1.heap.size<k.heap.size:=Ys d s.size;have M:k.cell? ⟨w.heap.size,0,none⟩=some (.bool neg):=by rw[Yb n];rfl
 have I:k.cell? ⟨w.heap.size,1,none⟩=some (.slice A N c):=by rw[Yb n];rfl
 have a0:k.cell? ⟨w1.heap.size,0,none⟩=some (.bool g):=by rw[Yb y];rfl
 have a5:k.cell? ⟨w1.heap.size,1,none⟩=some (.slice W m1 c1):=by rw[Yb y];rfl
 have T:w.heap.size<k.heap.size:=by omega
 have hal:=(Yj k.heap.size k).alloc (Yc _) (.cells #[.bool i,.slice X m2 c2] 88);have O:=Ya hal;have t:=Ya (a4.out.trans ((f.out.trans (hal.mono (Ya5 x))).mono (Ya5 Q)));have K0:=Ya ((H.out.below (t.out.mono hB)).more (Yz hB t.out.size));have K1:=Ya ((a8.out.below (f.out.trans (hal.mono (Ya5 x)))).more (f.out.trans (hal.mono (Ya5 x))).size);have K2:=Ya ((a1.out.below hal).more hal.size);clear J s V C n y d j R hal;unfold Zjj;go_wp2_with fail
 refine(Z50 neg g A W N c m1 c1 l l1 z _ _ _ (Yc _) K0.out K1.out).mono ?_;rintro e w4 ⟨rfl,a⟩;have v:=(a.block k.heap.size (by simp)).trans (heap_alloc_new k (.cells #[.bool i,.slice X m2 c2] 88));have a9:=(a.cell (p:=⟨w.heap.size,0,none⟩) (by show w.heap.size<_;simp;omega)).trans ((O.out.cell (p:=⟨w.heap.size,0,none⟩) T).trans M);have C:=(a.cell (p:=⟨w.heap.size,1,none⟩) (by show w.heap.size<_;simp;omega)).trans ((O.out.cell (p:=⟨w.heap.size,1,none⟩) T).trans I);have s0:w4.cell? ⟨k.heap.size,0,none⟩=some (.bool i):=by rw[Yb v];rfl
 have s1:w4.cell? ⟨k.heap.size,1,none⟩=some (.slice X m2 c2):=by rw[Yb v];rfl
 have D:=Ya (Zhk t.out a t.out.size);have a7:=Ya ((K0.out.below a).more a.size);have a2:=Ya ((K2.out.below a).more a.size);clear v M I a0 a5 a;by_cases r:tz o q<=z
 .have d1:decide (aa z (tz o q)>=0)=true:=by
   unfold aa
   split
   .omega
   .split <;> simp
  have D1:=Ya (show decide (tz o q<=z)=true from decide_eq_true r);clear r;generalize aa z (tz o q)=o1 at *;go_wp2_with fail
  refine(Z50 neg i A X N c m2 c2 l l2 z _ _ _ (Yc _) a7.out a2.out).mono ?_;rintro e w5 ⟨rfl,G⟩;have a6:=Ya (Zhk D.out G D.out.size);have d2:decide (aa z (tz E k2)<=0)=decide (z<=tz E k2):=by
   unfold aa
   split
   .simp;omega
   .split
    .simp;omega
    .simp;omega
  have D2:=Ya d2;clear G d2;generalize aa z (tz E k2)=o2 at *;go_wp2_with fail
  go_ret
  refine⟨?_,a6.out⟩;rw[D1.out,<- D2.out];rfl
 .have d1:decide (aa z (tz o q)>=0)=false:=by
   unfold aa;rw[if_pos (by omega)];rfl
  have D1:=Ya (show decide (tz o q<=z)=false from decide_eq_false r);clear r;generalize aa z (tz o q)=o1 at *;go_wp2_with fail
  go_ret
  refine⟨?_,D.out⟩;rw[D1.out];rfl
def S.bu:ByteArray:=⟨#[45,53,51,54,56,55,48,57,49,50]⟩
def S.cm:ByteArray:=⟨#[53,51,54,56,55,48,57,49,49]⟩
theorem tz_least:Tz bu 1 true [2,1,9,0,7,8,6,3,5]/\tz true [2,1,9,0,7,8,6,3,5]=-536870912:=by
 refine⟨⟨rfl,by decide,(λ d hd=>by simp at hd;rcases hd with rfl|rfl|rfl|rfl|rfl|rfl|rfl|rfl|rfl <;> decide),λ i hi h=>?_,.inr ⟨rfl,rfl,λ h=>rfl⟩⟩,by decide⟩;have h2:i<10:=hi;have:i=1\/i=2\/i=3\/i=4\/i=5\/i=6\/i=7\/i=8\/i=9:=by omega
 rcases this with rfl|rfl|rfl|rfl|rfl|rfl|rfl|rfl|rfl <;> rfl
theorem tz_most:Tz cm 0 false [1,1,9,0,7,8,6,3,5]/\tz false [1,1,9,0,7,8,6,3,5]=536870911:=by
 refine⟨⟨rfl,by decide,(λ d hd=>by simp at hd;rcases hd with rfl|rfl|rfl|rfl|rfl|rfl|rfl|rfl <;> decide),λ i hi h=>?_,.inl ⟨rfl,rfl⟩⟩,by decide⟩;have h2:i<9:=hi;have:i=0\/i=1\/i=2\/i=3\/i=4\/i=5\/i=6\/i=7\/i=8:=by omega
 rcases this with rfl|rfl|rfl|rfl|rfl|rfl|rfl|rfl|rfl <;> rfl
section
theorem Zw0 (b:Nat)(t:ByteArray)(p:Nat)(neg:Bool)(l:List Int)(K:Tz t p neg l)(Q:t.size<=1000000)(z:Int)(L:tz neg l=z)(hr:0<=z/\z<=1000000)(w:World) :
 Calls prog 21 #[.pointer (some ⟨b,0,none⟩),.string t] w λ e w'=>e=.returned (.int .u32 (4*z))/\Below w.heap.size w w':=by
 have hp:=Zpl t p neg l K Q w;rw[L] at hp;have R:=Ya hp;have n:=λ(neg:Bool) (A:Option Addr) (N c:Nat) (l:List Int) (w:World) (B:Nat) I h=>Zzo bu cm 1 0 true false _ _ tz_least.1 tz_most.1 (by decide) (by decide) neg A N c l z w B I h
 rw[tz_least.2,tz_most.2,show(decide (-536870912<=z) && decide (z<=536870911))=true by rw[decide_eq_true (by omega),decide_eq_true (by omega)];rfl] at n;have C:=Ya n;have D:=Ya (λ(neg:Bool) (A:Option Addr) (N c:Nat) (l:List Int) (w:World) (B:Nat) I h=>Z29 neg A N c l z w B I h ⟨by omega,by omega⟩);have e1:IntKind.i64.wrap (4*z)=4*z:=Ym _ ⟨by omega,by omega⟩;have e2:IntKind.i32.wrap (4*z)=4*z:=IntWalk.i32_in _ ⟨by omega,by omega⟩;have e3:IntKind.u32.wrap (4*z)=4*z:=Ybo _ ⟨by omega,by omega⟩;have e4:4*z%4294967296=4*z:=by omega
 clear hp n K L;go_enter func21,ntmps21
 go_wp2_with fail
 refine R.out.mono ?_;rintro e w1 ⟨g,A,m,c,l1,rfl,x,s⟩;have v:=Ya x;have j:=Ya s;clear x s;unfold Zjj;go_upto_region 2 with fail
 have f:=heap_alloc_new w1 (.cells #[.bool g,.slice A m c] 88);have k:Below w1.heap.size w1 (w1.alloc (.cells #[.bool g,.slice A m c] 88)):=(Yj _ _).alloc (Yc _) _;have d:w1.heap.size<(w1.alloc (.cells #[.bool g,.slice A m c] 88)).heap.size:=by simp
 generalize w1.alloc (.cells #[.bool g,.slice A m c] 88)=w2 at *;have i:=Ya (v.out.below k);have o:=Ya (j.out.trans (k.mono j.out.size));have O:=Ya f;have T:w2.cell? ⟨w1.heap.size,0,none⟩=some (.bool g):=by rw[Yb f];rfl
 have M:w2.cell? ⟨w1.heap.size,1,none⟩=some (.slice A m c):=by rw[Yb f];rfl
 clear f k v j;go_wp2_with fail
 refine(C.out g A m c l1 w2 w1.heap.size (Ya5 d) i.out).mono ?_;rintro e E ⟨rfl,a⟩;have q:=(a.block _ d).trans O.out;have J:=Ya (i.out.below (a.mono (Ya5 d)));have u:=Ya (o.out.trans (a.mono o.out.size));have G:=Ys d a.size;have r0:E.cell? ⟨w1.heap.size,0,none⟩=some (.bool g):=by rw[Yb q];rfl
 have r1:E.cell? ⟨w1.heap.size,1,none⟩=some (.slice A m c):=by rw[Yb q];rfl
 clear a q T M i o;go_wp2_with fail
 refine(D.out g A m c l1 E w1.heap.size (Ya5 G) J.out).mono ?_;rintro e w4 ⟨rfl,r⟩;have y:=Ya (u.out.trans (r.mono u.out.size));clear r;go_wp2_with fail
 go_ret
 exact⟨rfl,y.out⟩
section
variable {w:World}{F:Nat->Prop}{lo b p:Nat}{H half:Int}{P:List (ByteArray×Int)}{m:S.Mach}
theorem KAt.newF (h:KAt w lo b p F H half P m){k:Nat}(hk:w.heap.size<=k):¬F k:=λ q=>by have:=(h.lt k q).2;omega
theorem Zzp (d:Int)(t:ByteArray)(j:Nat)(neg:Bool)(l:List Int)(f:Tz t j neg l)(i:t.size<=1000000)(z:Int)(g:tz neg l=z)(h:0<=z/\z<=1000000)(w:World)(b:Nat) :
 Calls prog 9 #[.pointer (some ⟨b,0,none⟩),.agg #[.int .i64 2,.int .i64 d,.string t,.slice none 0 0,.int .i64 0]] w λ e w'=>e=.returned (.int .u32 (4*z))/\Below w.heap.size w w':=by
 have k:=Ya (λ W=>Zw0 b t j neg l f i z g h W);clear f i g h;go_enter func9,ntmps9
 go_wp2_with fail
 refine(k.out _).mono ?_;rintro e w2 ⟨rfl,a⟩;have c:=Ya (((Yj w.heap.size w).alloc (Yc _) (.cells #[.int .i64 2,.int .i64 d,.string t,.slice none 0 0,.int .i64 0] 24)).trans (a.mono (by simp)));clear a;go_wp2_with fail
 go_ret
 exact⟨rfl,c.out⟩
theorem Zqv (v:Int)(t:ByteArray)(J:t.size<=100000)(I:KAt w lo b p F H half P m)(a:0<=m.rd 26/\m.rd 26<=100000000) :
 Calls prog 9 #[.pointer (some ⟨b,0,none⟩),.agg #[.int .i64 4,.int .i64 v,.string t,.slice none 0 0,.int .i64 0]] w λ e w'=>e=.returned (.int .u32 (4*m.rd 26+1))/\KAt w' lo b p F H half P (S.takeM m 4 (charsU (octs t)))/\Only F w w':=by
 have D:=Ya I;have N:=Ya (λ W=>Z28 t J W);have G:=Ya a;have l:=Ya (show(charsU (octs t)).length<=100000 by have:=Zku (octs t);rw[Zdl] at this;omega);clear I a J;go_enter func9,ntmps9
 go_wp2_with fail
 refine(N.out _).mono ?_;rintro e w2 ⟨A,n,c,rfl,E,u,d⟩;have f:Below w.heap.size w (w.alloc (.cells #[.int .i64 4,.int .i64 v,.string t,.slice none 0 0,.int .i64 0] 24)):=(Yj _ _).alloc (Yc _) _;have z:(w.alloc (.cells #[.int .i64 4,.int .i64 v,.string t,.slice none 0 0,.int .i64 0] 24)).heap.size=w.heap.size+1:=by simp
 have i:=Ya (f.trans (d.mono (by omega)));have r:=Ya (D.out.below i.out);have L:=Ya (Z6g 4 A n c (charsU (octs t)) E (by decide) (by rw[E];exact l.out) (λ x K=>by have:=Znq _ x K;omega) r.out G.out (Zap u) (λ k o s e=>D.out.newF (by
  have:=u.lt k (by
   subst e;rcases u.2 with⟨C,_⟩|⟨g,cap,M,C,_⟩
   .cases C
   .cases C;rfl)
  omega)))
 clear u d f z E D r;go_wp2_with fail
 refine L.out.mono ?_;rintro e w3 ⟨rfl,j,h⟩;have y:=Ya j;have B:=Ya ((Only.of_below (F:=F) i.out).trans h λ _ _ q=>q);clear j h;go_wp2_with fail
 go_ret
 exact⟨rfl,y.out,B.out⟩
end
end
def Zho (t:ByteArray):Array Value:=#[.int .i64 4,.int .i64 0,.string t,.slice none 0 0,.int .i64 0]
theorem Zzq (t:ByteArray)(ht:t.size<=40)(w:World):Calls prog 15 #[.agg (Zho t),.int .i64 60] w λ e w'=>e=.returned (.int .i64 59)/\Below w.heap.size w w':=by
 have d1:decide ((t.size:Int)>40)=false:=decide_eq_false (by omega);have d2:decide ((40:Int)<(t.size:Int))=false:=decide_eq_false (by omega);unfold Zho;go_enter func15,ntmps15
 go_wp2_with fail
 go_loopw [1,5] (λ c a wr=>c=.int .i64 59/\a=.int .i64 0/\wr=w.alloc (.cells #[.int .i64 4,.int .i64 0,.string t,.slice none 0 0,.int .i64 0] 24)) (λ _ _ _=>0)
 case atStart=>exact⟨rfl,rfl,rfl⟩
 case round =>
  obtain⟨rfl,rfl,rfl⟩:=hrel;go_wp2_with fail
  go_ret
  exact⟨rfl,(Yj _ _).alloc (Yc _) _⟩
theorem Z6h (t:ByteArray)(ht:t.size<=40)(w:World):Calls prog 17 #[.agg (Zho t)] w λ e w'=>e=.returned (.int .i64 (6+(t.size:Int)))/\Below w.heap.size w w':=by
 have e1:IntKind.i64.wrap (6+(t.size:Int))=6+(t.size:Int):=Ym _ ⟨by omega,by omega⟩;unfold Zho;go_enter func17,ntmps17
 go_wp2_with fail
 go_loopw [3,4] (λ c a wr=>c=.int .i64 (6+(t.size:Int))/\a=.int .i64 0/\wr=w.alloc (.cells #[.int .i64 4,.int .i64 0,.string t,.slice none 0 0,.int .i64 0] 24)) (λ _ _ _=>0)
 case atStart=>exact⟨rfl,rfl,rfl⟩
 case round =>
  obtain⟨rfl,rfl,rfl⟩:=hrel;go_wp2_with fail
  go_ret
  exact⟨rfl,(Yj _ _).alloc (Yc _) _⟩
theorem Z3a (t:ByteArray)(w:World):Calls prog 49 #[.agg (Zho t)] w λ e w'=>e=.returned (.bool true)/\Below w.heap.size w w':=by
 unfold Zho;go_enter func49,ntmps49
 go_wp2_with fail
 go_loopw [3] (λ a wr=>a=.int .i64 0/\wr=w.alloc (.cells #[.int .i64 4,.int .i64 0,.string t,.slice none 0 0,.int .i64 0] 24)) (λ _ _=>0)
 case atStart=>exact⟨rfl,rfl⟩
 case round =>
  obtain⟨rfl,rfl⟩:=hrel;go_wp2_with fail
  go_ret
  exact⟨rfl,(Yj _ _).alloc (Yc _) _⟩
theorem Z3b (t:ByteArray)(w:World):Calls prog 32 #[.agg (Zho t)] w λ e w'=>e=.returned (.tuple #[.slice none 0 0,.agg (Zho t)])/\Below w.heap.size w w':=by
 unfold Zho;go_enter func32,ntmps32
 go_wp2_with fail
 go_loopw [4] (λ a wr=>a=.slice none 0 0/\wr=(w.alloc (.cells #[.int .i64 4,.int .i64 0,.string t,.slice none 0 0,.int .i64 0] 24)).alloc (.cells #[.int .i64 0,.int .i64 0,.string ⟨#[]⟩,.slice none 0 0,.int .i64 0] 24)) (λ _ _=>0)
 case atStart=>exact⟨rfl,rfl⟩
 case round =>
  obtain⟨rfl,rfl⟩:=hrel;go_wp2_with fail
  go_region
  all_goals go_wp2_with fail
  all_goals refine bodyPost_ret (v:=.tuple #[.slice none 0 0,.agg #[.int .i64 4,.int .i64 0,.string t,.slice none 0 0,.int .i64 0]]) (by simp[results,results32,go_sem]) rfl ⟨rfl,?_⟩
  all_goals exact below_drewN (((Yj _ _).alloc (Yc _) _).alloc (by simp) _) 1
theorem Zzr {l:List Int}{w:World}{e:Ending}{w':World}(h:Zfy l w e w'):Below w.heap.size w w'/\∃(A:Option Addr)(m c:Nat)(d:Int),e=.returned (.tuple #[.slice A m c,.int .i64 d])/\decide (d=0)=(codesU l).isSome:=by
 obtain⟨hb,a⟩:=h;refine⟨hb,?_⟩
 cases hl:codesU l with
 | none =>
  rw[hl] at a;exact⟨none,0,0,4,a,rfl⟩
 | some cs =>
  rw[hl] at a;obtain⟨A,m,c,rfl,hm,ho⟩:=a;exact⟨A,m,c,0,rfl,rfl⟩
theorem Z6i (t:ByteArray)(n:t.size<=100000)(w:World):Calls prog 16 #[.agg (Zho t)] w λ e w'=>e=.returned (.bool (codesU (octs t)).isSome)/\Below w.heap.size w w':=by
 have j:=Ya (λ W=>Z3b t W);have q:=Ya (λ W=>Zlw t n W);unfold Zho at j⊢;go_enter func16,ntmps16
 go_wp2_with fail
 refine(j.out _).mono ?_;rintro e w1 ⟨rfl,f⟩;have a:=Ya (((Yj w.heap.size w).alloc (Yc _) (.cells #[.int .i64 4,.int .i64 0,.string t,.slice none 0 0,.int .i64 0] 24)).trans (f.mono (by simp)));clear f;go_wp2_with fail
 go_loopw [5] (λ o wr=>o=.int .i64 0/\wr=w1.alloc (.cells #[.int .i64 4,.int .i64 0,.string t,.slice none 0 0,.int .i64 0] 24)) (λ _ _=>0)
 case atStart=>exact⟨rfl,rfl⟩
 case round =>
  obtain⟨rfl,rfl⟩:=hrel;go_wp2_with fail
  go_loopw [6] (λ k wr=>k=.int .i64 0/\wr=w1.alloc (.cells #[.int .i64 4,.int .i64 0,.string t,.slice none 0 0,.int .i64 0] 24)) (λ _ _=>0)
  case atStart=>exact⟨rfl,rfl⟩
  case round =>
   obtain⟨rfl,rfl⟩:=hrel;go_wp2_with fail
   refine(q.out _).mono ?_;rintro e l hp;obtain⟨d,A,m,c,ev,rfl,h⟩:=Zzr hp;have g:=(d.block w1.heap.size (by simp)).trans (heap_alloc_new w1 (.cells #[.int .i64 4,.int .i64 0,.string t,.slice none 0 0,.int .i64 0] 24));have q0:l.cell? ⟨w1.heap.size,0,none⟩=some (.int .i64 4):=by rw[Yb g];rfl
   have i:=Ya ((a.out.alloc a.out.size (.cells #[.int .i64 4,.int .i64 0,.string t,.slice none 0 0,.int .i64 0] 24)).trans (d.mono (by have:=a.out.size;simp;omega)));clear hp d g;go_wp2_with fail
   go_ret
   rw[<- h];exact⟨rfl,i.out⟩
