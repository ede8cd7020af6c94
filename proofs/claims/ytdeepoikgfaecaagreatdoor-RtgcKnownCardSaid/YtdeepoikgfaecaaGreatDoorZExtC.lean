/- Parts. -/
import Derived.Test.YtdeepoikgfaecaaGreatDoorZKGra
import Derived.BigQuiet
import Derived.BigRegion
set_option linter.all false
set_option maxHeartbeats 4000000
open Go.Lib renaming hid->Ya,cell_of_heap->Yb
open List renaming getElem?_eq_getElem->Yd,getElem?_eq_some_iff->Ye,length_cons->Yl,getElem?_append_left->Yn,mem_singleton->Yq,length_map->Ys,mem_cons_of_mem->Yw,mem_cons_self->Yy,range->Yz,getElem?_map->Y0,not_mem_nil->Y3,mem_append->Y8,take_length->Yag,getElem_mem->Yap,mem_range->Yay,all_eq_true->Yaz,append_nil->Ya0,map_append->Ya3,take_add_one->Ya8,any_eq_true->Ybf
open Array renaming getElem?_eq_some_iff->Yh,replicate->Y4
open Bool renaming and_eq_true->Yp,or_eq_true->Ybt
open Go.Value renaming int->Y1,oneCell'->Yac,slice->Ybc
open Go.World renaming ownsRow_nil->Yai
open Go.Region renaming ready->Yav,waitsFor->Ybb,binds->Ybe,Mode->Ybq,waitsFor_spec->Yb2,noSelect->Yb3
namespace Go.Proofs.YtdeepoikgfaecaaGreatDoor
set_option maxRecDepth 100000
section
open Go.RowKit
structure S.RP (g:S.Gr)(roots:List Int)(j:Nat)(L:List Nat):Prop where
 nd:L.Nodup
 rng:∀ i∈L,i<g.ns.length
 root:∀ r∈roots,∀ i,g.node r=some i->i∈L
 clo:∀ (q n:Nat),q<j->L[q]?=some n->∀ x∈(g.nd n).ws,∀ i,g.node (g.word x)=some i->i∈L
 why:∀ (q n:Nat),L[q]?=some n->(∃ r∈roots,g.node r=some n)\/∃ (q' n':Nat),q'<q/\L[q']?=some n'/\∃ x∈(g.nd n').ws,g.node (g.word x)=some n
theorem Zz1 (g:S.Gr):S.RP g [] 0 []:=⟨List.nodup_nil,fun i hi=>(Y3 hi).elim,fun r hr=>(Y3 hr).elim,fun q n hq=>by omega,fun q n hn=>by simp at hn⟩
theorem addN_mem {L:List Nat}{o:Option Nat}{i:Nat}:i∈S.ag L o↔i∈L\/o=some i:=by
 cases o with
 | none=>rw [Zb9];simp
 | some n =>
  by_cases c:n∈L
  ·rw [Zey c]
   constructor
   ·exact .inl
   ·rintro (h | h)
    ·exact h
    ·cases h;exact c
  ·rw [Zdn c,Y8,Yq]
   constructor
   ·rintro (h | h)
    ·exact .inl h
    ·exact .inr (by rw [h])
   ·rintro (h | h)
    ·exact .inl h
    ·cases h;exact .inr rfl
theorem Zo5 (L:List Nat)(o:Option Nat):∃ d,S.ag L o=L++d:=by
 cases o with
 | none=>exact ⟨[],by rw [Zb9,Ya0]⟩
 | some n =>
  by_cases c:n∈L
  ·exact ⟨[],by rw [Zey c,Ya0]⟩
  ·exact ⟨[n],Zdn c⟩
theorem S.RP.add {g:S.Gr}{a:Int}(hg:g.Ok a){roots roots':List Int}{j:Nat}{L:List Nat}(h:S.RP g roots j L)(hj:j<=L.length)(hs:∀ r∈roots,r∈roots'){w:Int}(hr:∀ r∈roots',r∈roots\/r=w)
 (hw:∀ n,g.node w=some n->(∃ r∈roots',g.node r=some n)\/∃ (q' n':Nat),L[q']?=some n'/\∃ x∈(g.nd n').ws,g.node (g.word x)=some n):S.RP g roots' j (S.ag L (g.node w)):=by
 obtain ⟨d,hd⟩:=Zo5 L (g.node w);have old:∀ (q n:Nat),q<L.length->(S.ag L (g.node w))[q]?=some n->L[q]?=some n:=fun q n hq h=>by
  rw [hd,Yn hq] at h;exact h
 have new:∀ (q n:Nat),L[q]?=some n->(S.ag L (g.node w))[q]?=some n:=fun q n h=>by
  rw [hd,Yn (Ye.1 h).1];exact h
 refine ⟨?_,fun i hi=>?_,fun r hrr i hi=>?_,fun q n hq hn x hx i hi=>?_,fun q n hn=>?_⟩
 ·cases hn:g.node w with
  | none=>rw [Zb9];exact h.nd
  | some n =>
   by_cases c:n∈L
   ·rw [Zey c];exact h.nd
   ·rw [Zdn c,List.nodup_append]
    refine ⟨h.nd,by simp,fun x hx y hy e=>?_⟩;rw [Yq] at hy;subst hy;exact c (e ▸ hx)
 ·rcases addN_mem.1 hi with hi | hi
  ·exact h.rng i hi
  ·exact (Zgc hg hi).1
 ·rcases hr r hrr with hr1 | rfl
  ·exact addN_mem.2 (.inl (h.root r hr1 i hi))
  ·exact addN_mem.2 (.inr hi)
 ·exact addN_mem.2 (.inl (h.clo q n hq (old q n (by omega) hn) x hx i hi))
 ·by_cases c:q<L.length
  ·rcases h.why q n (old q n c hn) with ⟨r,hr1,e⟩ | ⟨q',n',h1,h2,h3⟩
   ·exact .inl ⟨r,hs r hr1,e⟩
   ·exact .inr ⟨q',n',h1,new q' n' h2,h3⟩
  ·have hm:n∈S.ag L (g.node w):=List.mem_of_getElem? hn
   have hnode:g.node w=some n:=by
    rcases addN_mem.1 hm with hi | hi
    ·exfalso
     cases hnw:g.node w with
     | none =>
      rw [hnw,Zb9] at hn;have:=(Ye.1 hn).1;omega
     | some y =>
      by_cases cy:y∈L
      ·rw [hnw,Zey cy] at hn
       have:=(Ye.1 hn).1;omega
      ·rw [hnw,Zdn cy,List.getElem?_append_right (by omega)] at hn
       have h1:=(Ye.1 hn).1;have h0:q-L.length=0:=by simp at h1;omega
       rw [h0] at hn
       cases hn
       exact cy hi
    ·exact hi
   rcases hw n hnode with h1 | ⟨q',n',h1,h2⟩
   ·exact .inl h1
   ·exact .inr ⟨q',n',by have:=(Ye.1 h1).1;omega,new q' n' h1,h2⟩
theorem Zsm {g:S.Gr}{a:Int}(hg:g.Ok a){roots:List Int}{j:Nat}{L:List Nat}(h:S.RP g roots j L):L.length<=400:=by
 have h1:=Zgq hg (l:=L) (m:=Yz g.ns.length) h.nd h.rng fun i hi=>Yay.2 (h.rng i hi)
 have h2:∀ l:List Nat,(∀ i∈l,i<g.ns.length)->(l.length:Int)<=g.total l/\g.total l<=13*l.length:=by
  intro l hl
  induction l with
  | nil=>simp [S.Gr.total]
  | cons i r ih =>
   have:=ih fun i hi=>hl i (Yw _ hi)
   have h3:=hg.short _ (Zdm hg (hl i Yy)).2;rw [S.Gr.total,Yl];unfold S.GN.size;omega
 have h3:=h2 L h.rng;have h4:=h2 (Yz g.ns.length) fun i hi=>Yay.1 hi
 rw [List.length_range] at h4;have:=hg.few;omega
theorem Zef {B:Nat}{a w:World}(h:Below B a w):Below B a w.drew:=⟨h.os,h.tape,h.output,h.size,h.block⟩
theorem Zqc (g:S.Gr)(l:List Nat)(i:Nat):g.total (l++[i])=g.total l+(g.nd i).size:=by
 induction l with
 | nil=>simp [S.Gr.total]
 | cons x r ih=>rw [List.cons_append,S.Gr.total,S.Gr.total,ih];omega
theorem Zj7 {g:S.Gr}{a:Int}(hg:g.Ok a):∀ l:List Nat,(∀ i∈l,i<g.ns.length)->0<=g.total l/\g.total l<=13*l.length:=by
 intro l hl
 induction l with
 | nil=>simp [S.Gr.total]
 | cons i r ih =>
  have:=ih fun i hi=>hl i (Yw _ hi)
  have h3:=hg.short _ (Zdm hg (hl i Yy)).2;rw [S.Gr.total,Yl];unfold S.GN.size;omega
theorem RP.reached {g:S.Gr}{roots:List Int}{L:List Nat}(h:S.RP g roots L.length L):S.Reached g roots (g.total L) L :=
 ⟨h.nd,h.rng,h.root,fun i hi x hx j hj=>by
  obtain ⟨q,hq,e⟩:=List.getElem_of_mem hi;exact h.clo q i hq (by rw [<- e];exact Yd hq) x hx j hj,h.why,rfl⟩
section
variable {w w':World}{F F':Nat->Prop}{gb:Nat}{g:S.Gr}{a:Int}
theorem Zyd (h:GAt w F gb g)(hg:g.Ok a)(hz:a+S.sizes g.ns<=335544320)(Ar:Option Addr)(cr:Nat)(roots:List Int)(hr:Reads w w.heap.size Ar (roots.map (Y1 .u32)))(hb:∀ r∈roots,0<=r/\r<4294967296)(hl:roots.length<=1000) :
 Calls Tryz.prog 85 #[.pointer (some ⟨gb,0,none⟩),.slice Ar roots.length cr] w fun e w'=>∃ n l A c,e=.returned (.tuple #[.int .i64 n,.slice A l.length c])/\S.Reached g roots n l/\Below w.heap.size w w':=by
 have HR:=Ya hr;have HB:=Ya hb;have HG:=Ya h;have HGo:=Ya hg;have HZ:=Ya hz;obtain ⟨R,hR⟩:=Yx roots.length;have HRl:=Ya hR;rw [<- hR] at hl ⊢;clear hr hb h hg hz hR;go_enter Tryz.func85,Tryz.ntmps85
 go_wp2_with fail
 go_loopw [6,7] (fun v6 v7 wl=>∃ k:Nat,k<=R/\v7=.int .i64 k/\(∃ L A c,v6=.slice A L.length c/\Hid (wl.ownsRow w.heap.size 3 1 (.slice A L.length c) L.length (L.map Zt0))/\Hid (S.RP g (roots.take k) 0 L))/\Hid (Below w.heap.size w wl)) (fun _ v7 _=>R-(intOf v7).toNat)
 case atStart=>exact ⟨0,by omega,rfl,⟨[],none,0,rfl,Ya (Yai _ _ _ _),Ya (Zz1 g)⟩,Ya (Below.refl _ _)⟩
 case round =>
  obtain ⟨k,hk,rfl,⟨L,A,c,rfl,HO,HP⟩,HBl⟩:=hrel;have hzl:=HBl.out.size;have hLl:=Zsm HGo.out HP.out;obtain ⟨NL,hNL⟩:=Yx L.length;by_cases hlt:k<R
  ·have hkl:k<roots.length:=by rw [<- HRl.out];exact hlt
   obtain ⟨b,off,hA,hb,hc⟩:=(HR.out.below HBl.out) (by rw [Ys];omega)
   have q0:=hc k (.int .u32 roots[k]) (by rw [Y0,Yd hkl];rfl);have r01:=HB.out _ (Yap hkl);have Htk:=Ya (show roots.take (k+1)=roots.take k++[roots[k]] from by rw [Ya8,Yd hkl];rfl);obtain ⟨x,hx⟩:=Yx roots[k];rw [<- hx] at q0 r01 Htk;subst hA;clear hc hx hkl;rw [<- hNL] at hLl ⊢;go_wp2_with fail
   rw [hNL] at hLl ⊢;refine (Z02 x r01 (HG.out.below HBl.out) A c w.heap.size L HO.out hzl (by omega)).mono ?_;rintro e w2 ⟨A2,c2,rfl,ho2,hb2,-⟩;have HP2:=Ya (HP.out.add HGo.out (Nat.zero_le _) (roots':=roots.take (k+1)) (w:=x) (fun r hr=>by rw [Htk.out];exact List.mem_append_left _ hr) (fun r hr=>by
    rw [Htk.out] at hr;rcases Y8.1 hr with h | h
    ·exact .inl h
    ·exact .inr (Yq.1 h)) (fun n hn=>.inl ⟨x,by rw [Htk.out];exact List.mem_append_right _ (Yq.2 rfl),hn⟩))
   have HO2:=Ya ho2;have HB2:=Ya (HBl.out.trans hb2);clear ho2 hb2 hLl hNL;generalize S.ag L (g.node x)=L2 at *;go_wp2_with fail
   go_roundw
   case rel=>exact ⟨k+1,by omega,by go_num,⟨L2,A2,c2,rfl,HO2,HP2⟩,HB2⟩
   case measure=>simp [intOf];omega
  ·have hke:k=R:=by omega
   subst hke;have ht:roots.take k=roots:=by rw [HRl.out,Yag]
   rw [ht] at HP;clear ht hNL NL;go_wp2_with fail
   go_loopw [6,8,9] (fun v6 v8 v9 wl=>∃ (j:Nat) (n:Int),v9=.int .i64 j/\v8=.int .i64 n/\(∃ L A c,v6=.slice A L.length c/\j<=L.length/\Hid (wl.ownsRow w.heap.size 3 1 (.slice A L.length c) L.length (L.map Zt0))/\Hid (S.RP g roots j L)/\Hid (n=g.total (L.take j)))/\Hid (Below w.heap.size w wl)) (fun _ _ v9 _=>400-(intOf v9).toNat)
   case atStart=>exact ⟨0,0,rfl,rfl,⟨L,A,c,rfl,Nat.zero_le _,HO,HP,Ya rfl⟩,HBl⟩
   case round =>
    clear HO HP HBl hzl hLl;obtain ⟨j,n,rfl,rfl,⟨L,A,c,rfl,hj,HO,HP,Hn⟩,HBl⟩:=hrel;have hzl:=HBl.out.size;have hLl:=Zsm HGo.out HP.out;obtain ⟨n0,n1⟩:0<=n/\n<=13*400:=by
     have:=Zj7 HGo.out (L.take j) fun i hi=>HP.out.rng i (List.mem_of_mem_take hi)
     rw [List.length_take] at this;rw [Hn.out];omega
    by_cases hlt:j<L.length
    ·obtain ⟨b,off,hA,hb,hc⟩:=(Reads.of_own HO.out) (by rw [Ys];omega)
     have q0:=hc j (Zt0 L[j]) (by rw [Y0,Yd hlt];rfl);have hir:=HP.out.rng _ (Yap hlt);have Hij:=Ya (Yd hlt);obtain ⟨i,hi⟩:=Yx L[j];rw [<- hi] at q0 hir Hij;obtain ⟨An,cn,Aa,ca,d0,d1,d2,d3⟩:=HG.out.cells;have hgb0:=HG.out.out.1;have hgb:gb<wr.heap.size:=by omega
     replace d0:=(HBl.out.cell (p:=⟨gb,0,none⟩) hgb0).trans d0
     obtain ⟨bn,offn,rfl,hbn,hnn⟩:=d2 (by omega);obtain ⟨y0,y1,y2,Aw,cw,y3,y4,hww⟩:=hnn i (g.nd i) (Zdm HGo.out hir).1;have hbn0:=hbn.1;have hbn1:bn<wr.heap.size:=by omega
     replace y0:=(HBl.out.cell (p:=⟨bn,offn+i*2,none⟩) hbn0).trans y0
     replace y3:=(HBl.out.cell (p:=⟨bn,offn+i*2+1,none⟩) hbn0).trans y3
     unfold Zt0 at q0;obtain ⟨nn,hnn2⟩:=Yx (g.nd i);rw [<- hnn2] at y0 y1 y2 y3 y4 hww;obtain ⟨ty,ws⟩:=nn;simp only at y0 y1 y2 y3 y4 hww;obtain ⟨NW,hNW⟩:=Yx ws.length;rw [<- hNW] at y2 y3 y4;have HNW:=Ya hNW;obtain ⟨NN,hNN⟩:=Yx g.ns.length;rw [<- hNN] at d0 hir;obtain ⟨NL,hNL⟩:=Yx L.length;rw [<- hNL] at hlt hj hLl ⊢;subst hA;have HNN:=Ya hNN;have HNL:=Ya hNL;have Hnd:=Ya hnn2;clear hc hi hnn d1 d2 d3 hNW hNN hNL hnn2;go_upto_region 10 with fail
     go_region
     have Hb2:=Ya (Zef ((Below.refl wr.heap.size wr).alloc (Nat.le_refl _) (.cells #[.int .u8 ty,.slice Aw NW cw] 42)));have hr2:=heap_alloc_new wr (.cells #[.int .u8 ty,.slice Aw NW cw] 42);have hr3:(wr.alloc (.cells #[.int .u8 ty,.slice Aw NW cw] 42)).drew.heap[wr.heap.size]?=some (.cells #[.int .u8 ty,.slice Aw NW cw] 42):=hr2;generalize (wr.alloc (.cells #[.int .u8 ty,.slice Aw NW cw] 42)).drew=w2 at *;have hz2:=Hb2.out.size;have hlt2:wr.heap.size<w2.heap.size:=(Yh.1 hr3).1;have x0:w2.cell? ⟨wr.heap.size,0,none⟩=some (.int .u8 ty):=by rw [Yb hr3];rfl
     have x1:w2.cell? ⟨wr.heap.size,1,none⟩=some (.slice Aw NW cw):=by rw [Yb hr3];rfl
     have hwl:NW<=12:=by
      have:=HGo.out.short _ (Zdm HGo.out (show i<g.ns.length by rw [<- HNN.out];exact hir)).2;rw [<- Hnd.out] at this;rw [HNW.out];exact this
     have HX:=Ya hr3;have HW:=Ya hww;have HBw:=Ya (HBl.out.trans (Hb2.out.mono hzl));have HO2:=Ya (Zc HO.out Hb2.out);clear hr2 hr3 hww d0 q0 y0 y3 hgb hgb0 hbn0 hbn hbn1 HO HBl;clear Hb2;have hwx:w.heap.size<=wr.heap.size:=hzl;generalize wr.heap.size=xb at *;have wn:IntKind.i64.wrap (n+1)=n+1:=IntWalk.i64_in _ ⟨by omega,by omega⟩;have wn2:IntKind.i64.wrap (n+1+NW)=n+1+NW:=IntWalk.i64_in _ ⟨by omega,by omega⟩;have Hn2:=Ya (show n+1+NW=g.total (L.take (j+1)) by
      rw [Ya8,Hij.out]
      show _=g.total (L.take j++[i])
      rw [Zqc,<- Hn.out,<- Hnd.out];unfold S.GN.size;simp only;rw [<- HNW.out];omega)
     go_wp2_with fail
     go_loopw [6,11] (fun v6 v11 wl=>∃ (q:Nat),q<=NW/\v11=.int .i64 q/\(∃ L' A c,v6=.slice A L'.length c/\j<L'.length/\Hid (wl.ownsRow w.heap.size 3 1 (.slice A L'.length c) L'.length (L'.map Zt0))/\Hid (S.RP g roots j L')/\Hid (L'[j]?=some i)/\Hid (L'.take (j+1)=L.take (j+1))/\Hid (∀ x∈ws.take q,∀ y,g.node (g.word x)=some y->y∈L'))/\Hid (wl.heap[xb]?=some (.cells #[.int .u8 ty,.slice Aw NW cw] 42))/\Hid (Below w.heap.size w wl)) (fun _ v11 _=>NW-(intOf v11).toNat)
     case atStart=>exact ⟨0,by omega,rfl,⟨L,_,c,by rw [HNL.out],by rw [<- HNL.out];exact hlt,Ya (by rw [<- HNL.out] at HO2 ⊢;exact HO2.out),HP,Hij,Ya rfl,Ya (fun x hx=>by simp at hx)⟩,HX,HBw⟩
     case round =>
      obtain ⟨q,hq,rfl,⟨L',A',c',rfl,hjL,HO3,HP3,HI3,HT3,HD3⟩,HX3,HB3⟩:=hrel;have hz3:=HB3.out.size;have hLl3:=Zsm HGo.out HP3.out;have x13:wr.cell? ⟨xb,1,none⟩=some (.slice Aw NW cw):=by rw [Yb HX3.out];rfl
      have hxlt:xb<wr.heap.size:=(Yh.1 HX3.out).1;by_cases hlq:q<NW
      ·have hqw:q<ws.length:=by rw [<- HNW.out];exact hlq
       obtain ⟨b3,off3,hA3,hb3,hc3⟩:=(HW.out.pass (Pass.of_below (F:=F) HB3.out)) (by omega)
       obtain ⟨z0,z1,z2,z3,z4,z5⟩:=hc3 q ws[q] (Yd hqw);have hb31:=hb3.1;have Htk:=Ya (show ws.take (q+1)=ws.take q++[ws[q]] from by rw [Ya8,Yd hqw];rfl);have Hmem:=Ya (show ws[q]∈(g.nd i).ws by rw [<- Hnd.out];exact Yap hqw);obtain ⟨x,hx⟩:=Yx ws[q];rw [<- hx] at z0 z1 z2 z3 z4 z5 Htk Hmem;obtain ⟨u,v⟩:=x;simp only at z0 z1 z2 z3 z4 z5;obtain ⟨NM,hNM⟩:=Yx L'.length;rw [<- hNM] at hjL hLl3 ⊢;have HNM:=Ya hNM;subst hA3;clear hc3 hx hqw hNM hb3;have HG4:=Ya (HG.out.below HB3.out);go_wp2_with fail
       refine (Zh0 (u,v) ⟨z2,z3,z4,z5⟩ HG4.out).mono ?_;rintro e w4 ⟨rfl,hb4⟩;have hgf:=Zbw HGo.out (x:=(u,v)) ⟨z2,z3,z4⟩ HZ.out;have HO4:=Ya (Zc HO3.out hb4);have HB4:=Ya (HB3.out.trans (hb4.mono hz3));have HG5:=Ya (HG4.out.below hb4);have hz4:=hb4.size;clear x13 z0 z1;go_wp2_with fail
       rw [HNM.out];refine (Z02 _ hgf HG5.out A' c' w.heap.size L' HO4.out (by omega) (by rw [<- HNM.out];omega)).mono ?_;rintro e w5 ⟨A5,c5,rfl,ho5,hb5,hg5⟩;have HP5:=Ya (HP3.out.add HGo.out (by rw [<- HNM.out];omega) (roots':=roots) (w:=g.word (u,v)) (fun r hr=>hr) (fun r hr=>.inl hr) (fun n hn=>.inr ⟨j,i,HI3.out,(u,v),Hmem.out,hn⟩));obtain ⟨dd,hdd⟩:=Zo5 L' (g.node (g.word (u,v)));have HI5:=Ya (show (S.ag L' (g.node (g.word (u,v))))[j]?=some i by rw [hdd,Yn (by rw [<- HNM.out];exact hjL)];exact HI3.out);have HT5:=Ya (show (S.ag L' (g.node (g.word (u,v)))).take (j+1)=L.take (j+1) by rw [hdd,List.take_append_of_le_length (by rw [<- HNM.out];exact hjL)];exact HT3.out);have HD5:=Ya (show ∀ x∈ws.take (q+1),∀ y,g.node (g.word x)=some y->y∈S.ag L' (g.node (g.word (u,v))) from fun x hx y hy=>by
        rw [Htk.out] at hx;rcases Y8.1 hx with h | h
        ·exact addN_mem.2 (.inl (HD3.out x h y hy))
        ·rw [Yq] at h
         subst h;exact addN_mem.2 (.inr hy))
       have hj5:j<(S.ag L' (g.node (g.word (u,v)))).length:=by
        have:=(Zpn L' (g.node (g.word (u,v)))).1;rw [<- HNM.out] at this;omega
       have HO5:=Ya ho5;have HB5:=Ya (HB4.out.trans hb5);have HX4:=(hb4.block xb hxlt).trans HX3.out;have HX5:=Ya ((hg5.block xb (Yh.1 HX4).1 (fun e=>Zx HO4.out HX4 (by decide) e.symm)).trans HX4);clear hdd ho5 hb5 hb4 hg5 HX4;generalize S.ag L' (g.node (g.word (u,v)))=L5 at *;go_wp2_with fail
       go_roundw
       case rel=>exact ⟨q+1,by omega,by go_num,⟨L5,A5,c5,rfl,hj5,HO5,HP5,HI5,HT5,HD5⟩,HX5,HB5⟩
       case measure=>simp [intOf];omega
      ·have hqe:q=NW:=by omega
       subst hqe;have HD4:=Ya (show ∀ x∈ws,∀ y,g.node (g.word x)=some y->y∈L' from fun x hx=>HD3.out x (by rw [HNW.out,Yag];exact hx));have HP4:=Ya (show S.RP g roots (j+1) L' from ⟨HP3.out.nd,HP3.out.rng,HP3.out.root,fun p n hp hpn x hx i' hi'=>by
        by_cases c:p<j
        ·exact HP3.out.clo p n c hpn x hx i' hi'
        ·have hpj:p=j:=by omega
         subst hpj;rw [HI3.out] at hpn
         cases hpn
         rw [<- Hnd.out] at hx;exact HD4.out x hx i' hi',HP3.out.why⟩)
       have Hn4:=Ya (show n+1+q=g.total (L'.take (j+1)) by rw [HT3.out];exact Hn2.out);clear HD3 HP3 HD4;go_wp2_with fail
       go_roundw
       case rel=>exact ⟨j+1,n+1+q,by go_num,rfl,⟨L',A',c',rfl,hjL,HO3,HP4,Hn4⟩,HB3⟩
       case measure=>simp [intOf];omega
    ·have hje:j=L.length:=by omega
     subst hje;obtain ⟨NL,hNL⟩:=Yx L.length;rw [<- hNL] at hLl ⊢;have HNL:=Ya hNL;have Hre:=Ya (RP.reached HP.out);clear hNL;go_wp2_with fail
     go_ret2
     refine ⟨n,L,A,c,by rw [<- HNL.out];rfl,?_,HBl.out⟩;have:=Hn.out;rw [Yag] at this;rw [this];exact Hre.out
end
end
section
open Go.RowKit
structure Two2 (w:World)(base:Nat)(nu:Nat->Int)(L:List Nat)(A:Option Addr)(c:Nat)(B:Option Addr)(d:Nat):Prop where
 old:w.ownsRow base 3 1 (.slice A L.length c) L.length (L.map Zt0)
 new:w.ownsRow base 3 1 (.slice B L.length d) L.length ((L.map nu).map (Y1 .i64))
 apart:∀ k,(Ybc A L.length c).ownBlock=some k->(Ybc B L.length d).ownBlock≠some k
def Z1s (w w':World)(A B:Option Addr):Prop:=∀ k,k<w.heap.size->(Ybc A 0 0).ownBlock≠some k->(Ybc B 0 0).ownBlock≠some k->w'.heap[k]?=w.heap[k]?
theorem Zbf (A:Option Addr)(n c n' c':Nat):(Ybc A n c).ownBlock=(Ybc A n' c').ownBlock:=by cases A <;> rfl
section
variable {w w':World}{base:Nat}{nu:Nat->Int}{L:List Nat}{A B:Option Addr}{c d:Nat}
theorem Two2.nil (w:World)(base:Nat)(nu:Nat->Int):Two2 w base nu [] none 0 none 0:=⟨Yai _ _ _ _,Yai _ _ _ _,fun k h=>by cases h⟩
theorem Two2.below (h:Two2 w base nu L A c B d)(hb:Below w.heap.size w w'):Two2 w' base nu L A c B d:=⟨Zc h.old hb,Zc h.new hb,h.apart⟩
end
section
variable {w w':World}{F F':Nat->Prop}{gb:Nat}{g:S.Gr}
theorem Zsn (x y:Int)(hx:0<=x/\x<4294967296)(hy:0<=y/\y<4294967296)(h:GAt w F gb g)(wp:Value)(base:Nat)(hbase:base<=w.heap.size)(nu:Nat->Int)(L:List Nat)(A B:Option Addr)(c d:Nat)(h2:Two2 w base nu L A c B d)(hL:L.length<=1000)
 (hno:g.node x=none->x=y) (hso:∀ n,g.node x=some n->y=4*nu n+1/\0<=nu n/\nu n<=335544320/\∀ m∈L,nu m=nu n->m=n) (hnL:∀ m∈L,0<=nu m/\nu m<=335544320) :
 Calls Tryz.prog 86 #[wp,.pointer (some ⟨gb,0,none⟩),.int .u32 x,.int .u32 y,.slice A L.length c,.slice B L.length d] w fun e w' =>
  ∃ A' c' B' d',e=.returned (.tuple #[.slice A' (S.ag L (g.node x)).length c',.slice B' (S.ag L (g.node x)).length d',.bool true])/\Two2 w' base nu (S.ag L (g.node x)) A' c' B' d'/\Below base w w'/\Z1s w w' A B:=by
 obtain ⟨o,hoo⟩:=Yx (g.node x);have Hoo:=Ya hoo;rw [<- hoo] at hno hso ⊢;clear hoo;have H2:=Ya h2;have HnL:=Ya hnL;obtain ⟨N,hN⟩:=Yx L.length;have HN:=Ya hN;have HRo:=Ya (Reads.of_own h2.old);have HRn:=Ya (Reads.of_own h2.new);rw [<- hN] at hL ⊢;clear hN h2 hnL;go_enter Tryz.func86,Tryz.ntmps86
 go_wp2_with fail
 refine (Zxl x hx h).mono ?_;rintro e w2 ⟨rfl,n,rfl⟩;rw [<- Hoo.out]
 cases o with
 | none =>
  have hxy:=hno rfl;have exy:(x==y)=true:=by simp [hxy]
  clear hxy hno hso;simp only [S.nOf];go_wp2_with fail
  refine bodyPost_ret (v:=.tuple #[.slice A N c,.slice B N d,.bool true]) (by simp [results,Tryz.results86,go_sem]) rfl ?_;rw [Zb9,<- HN.out];refine ⟨A,c,B,d,rfl,?_,below_drewN (Below.refl _ _) n,fun k hk _ _=>rfl⟩;have:=H2.out;exact ⟨Zn this.old n,Zn this.new n,this.apart⟩
 | some z =>
  obtain ⟨y1,y2,y3,y4⟩:=hso z rfl;have Hinj:=Ya y4;have hzd:decide ((z:Int)<0)=false:=by simp
  have hym:(y%4 != 1)=false:=by rw [y1];simp
  have hyd:y/4=nu z:=by omega
  clear y1 y4 hno hso;simp only [S.nOf];obtain ⟨tt,htt⟩:=Yx (nu z);have Htt:=Ya htt;rw [<- htt] at y2 y3 hyd;clear htt;go_wp2_with fail
  go_loopw [17] (fun i wr=>∃ k n:Nat,k<=N/\i=.int .i64 k/\Hid (z ∉ L.take k)/\wr=w.drewN n) (fun i _=>N-(intOf i).toNat)
  case atStart=>exact ⟨0,n,by omega,rfl,Ya (by simp),rfl⟩
  case round =>
   obtain ⟨k,m,hk,rfl,hf,rfl⟩:=hrel;by_cases hlt:k<N
   ·have hkl:k<L.length:=by rw [<- HN.out];exact hlt
    obtain ⟨b,off,hA,hb,hc⟩:=HRo.out (by rw [Ys];omega);obtain ⟨b',off',hB,hb',hc'⟩:=HRn.out (by rw [Ys,Ys];omega);have q0:=hc k (.int .i64 L[k]) (by rw [Y0,Yd hkl];rfl);have q1:=hc' k (.int .i64 (nu L[k])) (by rw [Y0,Y0,Yd hkl];rfl);have htk:=Ya (show L.take (k+1)=L.take k++[L[k]] from by rw [Ya8,Yd hkl];rfl);have hmm:=Ya (show L[k]∈L from Yap hkl);obtain ⟨v,hv⟩:=Yx L[k];rw [<- hv] at q0 q1 htk hmm;obtain ⟨u,hu⟩:=Yx (nu v);rw [<- hu] at q1;have Hu:=Ya hu;subst hA hB;clear hc hc' hv hu;by_cases cv:v=z
    ·have e2:((v:Int)==(z:Int))=true:=by simp [cv]
     have e3:(u==tt)=true:=by simp [Hu.out,Htt.out,cv]
     have Cv:=Ya cv;clear cv;go_wp2_with fail
     go_quiet (fail)
     go_wp2_with fail
     refine bodyPost_ret (v:=.tuple #[.slice (some ⟨b,off,none⟩) N c,.slice (some ⟨b',off',none⟩) N d,.bool true]) (by simp [results,Tryz.results86,go_sem]) rfl ?_;rw [Zey (by rw [<- Cv.out];exact hmm.out),<- HN.out];refine ⟨_,c,_,d,rfl,?_,below_drewN (Below.refl _ _) _,fun k hk _ _=>rfl⟩;have:=H2.out;exact ⟨Zn this.old _,Zn this.new _,this.apart⟩
    ·have e2:((v:Int)==(z:Int))=false:=by simp;omega
     have e3:(u==tt)=false:=by
      simp only [beq_eq_false_iff_ne];intro e;rw [Hu.out,Htt.out] at e;exact cv (Hinj.out v hmm.out e)
     have Cv:=Ya cv;clear cv;go_wp2_with fail
     go_quiet (fail)
     go_wp2_with fail
     go_roundw
     case rel =>
      refine ⟨k+1,_,by omega,by go_num,Ya ?_,rfl⟩;rw [htk.out,Y8,Yq];exact fun q=>q.elim hf.out fun e=>Cv.out e.symm
     case measure=>simp [intOf];omega
   ·have hke:k=N:=by omega
    subst hke;have hno:=hf.out;rw [HN.out,Yag] at hno;have Hadd:=Ya (Zdn hno);have Hle:=Ya (show (L++[z]).length=k+1 by rw [List.length_append,<- HN.out];rfl);clear hf hno;have h2:=H2.out;have HO:Hid (w.ownsRow base 3 1 (.slice A k c) k (L.map Zt0)):=Ya (by have:=h2.old;rw [<- HN.out] at this;exact this);have HW:Hid (w.ownsRow base 3 1 (.slice B k d) k ((L.map nu).map (Y1 .i64))):=Ya (by have:=h2.new;rw [<- HN.out] at this;exact this);have HA:=Ya h2.apart;clear h2;go_wp2_with (first
     | (at_builtin;refine Zo rfl (.tmp 65) (.tmp 67) _ rfl base 3 Ze0 Tryz.underlying35 rfl (by decide) #[.int .i64 z] _ _ _ rfl (Zn HO.out m) rfl rfl rfl (by simp [Yac]) (by simp only [maxLen];omega) (by omega) hbase ?_;intro v' w7 ho7 hg7 hb7 hat7;obtain ⟨A8,c8,rfl⟩:=Za ho7;have hz7:=hb7.size;have ho8:w7.ownsRow base 3 1 (.slice B k d) k ((L.map nu).map (Y1 .i64)):=Zu (Zn HW.out m) (fun q hq=>hg7.block q ((Zn HW.out m).lt q hq).2 (fun e=>HA.out q ((Zbf A _ _ k c).trans e.symm) ((Zbf B _ _ k d).trans hq))))
     | (at_builtin;refine Zo rfl (.tmp 69) (.tmp 71) _ rfl base 3 Ze0 Tryz.underlying35 rfl (by decide) #[.int .i64 tt] _ _ _ rfl ho8 rfl rfl rfl (by simp [Yac]) (by simp only [maxLen];omega) (by omega) (Nat.le_trans hbase hz7) ?_;intro v' w9 ho9 hg9 hb9 hat9;obtain ⟨B8,d8,rfl⟩:=Za ho9))
    refine bodyPost_ret (v:=.tuple #[.slice A8 (k+1) c8,.slice B8 (k+1) d8,.bool true]) (by simp [results,Tryz.results86,go_sem]) rfl ?_;rw [Hadd.out,Hle.out];have hz0:w.heap.size<=w7.heap.size:=hz7;have o7:=(Zn HO.out m).lt;have o8:=ho8.lt;refine ⟨A8,c8,B8,d8,rfl,⟨?_,?_,fun q h1 h2=>?_⟩,(below_drewN (Below.refl base w) m).trans (hb7.trans hb9),fun q hq h1 h2=>?_⟩
    ·rw [Hle.out,Ya3]
     refine Zu ho7 fun q hq=>hg9.block q (ho7.lt q hq).2 fun e=>?_
     have e2:(Ybc B k d).ownBlock=some q:=e.symm;have hB:=(Zn HW.out m).lt q e2;rcases hat7 with h | h
     ·rw [h] at hq
      exact HA.out q ((Zbf A _ _ k c).trans hq) ((Zbf B _ _ k d).trans e2)
     ·rw [h] at hq
      cases hq
      have h4:w.heap.size+1<w.heap.size:=hB.2;omega
    ·rw [Hle.out,Ya3,Ya3]
     rw [Htt.out] at ho9;exact ho9
    ·rw [Hle.out] at h1 h2
     rcases hat9 with h | h
     ·rw [h] at h2
      rcases hat7 with h' | h'
      ·rw [h'] at h1
       exact HA.out q ((Zbf A _ _ k c).trans h1) ((Zbf B _ _ k d).trans h2)
      ·rw [h'] at h1
       cases h1
       have h4:w.heap.size+1<w.heap.size:=((Zn HW.out m).lt _ h2).2;omega
     ·rw [h] at h2
      cases h2
      have:=(ho7.lt _ h1).2;omega
    ·have s1:w7.heap[q]?=w.heap[q]?:=hg7.block q hq fun e=>h1 ((Zbf A _ _ k c).trans e.symm)
     rw [<- s1];exact hg9.block q (by omega) fun e=>h2 ((Zbf B _ _ k d).trans e.symm)
end
end
section
open Go.RowKit
section
variable {P:Program}{ops:Array Oper}{md:Ybq}{C:World->Prop}
def Zvo (md:Ybq)(ops:Array Oper)(n:Nat):Prop:=∀ (listed:Array Bool),HeadInv md ops n listed->∀ i,i<n->listed.getD i true=false->∀ t,n<=t->t ∉ Yav md ops listed
def Zz2 (md:Ybq)(ops:Array Oper)(n:Nat):Bool :=
 (Yz ops.size).all fun t=>decide (t<n) || ((Yz t).any fun j=>decide (n<=j) && Ybb md ops t j) ||
  (Yz n).all fun i=>(Yz (t+1)).any fun j=>decide (i<j) && (decide (j<n) || decide (j=t)) && Ybb md ops j i
theorem Zqd {n:Nat}(hB:Zz2 md ops n=true):Zvo md ops n:=by
 intro listed inv i hi hun t ht hr;obtain ⟨_,ot,hot,hall⟩:=mem_ready.1 hr;have htlt:t<ops.size:=(Yh.1 hot).1;have h1:=Yaz.1 hB t (Yay.2 htlt);simp only [Ybt,decide_eq_true_eq] at h1;rcases h1 with (h1 | h1) | h1
 ·omega
 ·obtain ⟨j,hj,hj2⟩:=Ybf.1 h1
  simp only [Yp,decide_eq_true_eq] at hj2;have hjt:=Yay.1 hj;obtain ⟨o',ho',e,he,hb,hon⟩:=Yb2 hj2.2;have:o'=ot:=Option.some.inj (ho'.symm.trans hot);subst this;have h2:=hall e he hb;rw [hon,getD_both (inv.tail j hj2.1 (by omega))] at h2
  cases h2
 ·have key:∀ (d i:Nat),n-i=d->i<n->listed.getD i true=false->False:=by
   intro d
   induction d using Nat.strongRecOn with
   | _ d ih =>
    intro i hd hi hun;have h2:=Yaz.1 h1 i (Yay.2 hi);obtain ⟨j,hj,hj2⟩:=Ybf.1 h2;simp only [Yp,Ybt,decide_eq_true_eq] at hj2;obtain ⟨oj,hoj,e,he,hb,hon⟩:=Yb2 hj2.2;rcases hj2.1.2 with hjn | hjt
    ·cases hl:listed.getD j false with
     | true =>
      have h3:=inv.closed j oj hoj hl e he hb;rw [hon,getD_both hun] at h3
      cases h3
     | false=>exact ih (n-j) (by omega) j rfl hjn (getD_in (by rw [inv.size];omega) hl)
    ·subst hjt
     have:oj=ot:=Option.some.inj (hoj.symm.trans hot);subst this;have h3:=hall e he hb;rw [hon,getD_both hun] at h3
     cases h3
  exact key _ i rfl hi hun
theorem Zio {n i:Nat}{oi:Oper}{v:Value}{L:Array Bool->Act->Prop}(hi:ops[i]?=some oi)(hsel:∀ (j:Nat) (o:Oper) cs b,ops[j]?=some o->o.op≠.select cs b)
 (hW:Zvo md ops n) (hn:n<=ops.size) (hin:i<n) (hdone:∀ listed a,L listed a->∀ j∈Yav md ops listed,n<=j) :
 ∀ (f:Nat) (listed:Array Bool) (a:Act),HeadInv md ops n listed ->
  (∀ j oj,ops[j]?=some oj->j≠i->listed.getD j true=false->(∀ e∈oj.after,Ybe md e=true->e.on≠i)->oi.apart ops oj=true) ->
  i∈Yav md ops listed->YieldsIn P ops C oi v a ->
  Zb7 P md ops C n L f (listed.setIfInBounds i true) (a.put oi.dst v)->Zb7 P md ops C n L (f+1) listed a:=by
 intro f
 induction f with
 | zero =>
  intro listed a inv _ hr hy H;have hun:=(mem_ready.1 hr).1;refine ⟨fun h=>(by rw [h] at hr;cases hr),fun j hj=>?_⟩;have hjn:j<n:=Nat.lt_of_not_le fun h=>absurd hj (hW listed inv i hin hun j h)
  refine ⟨hjn,?_⟩;by_cases hji:j=i
  ·subst hji;exact hy.qOp hi H
  ·exact absurd (hdone _ _ H j (ready_mono hj hji)) (by omega)
 | succ f ih =>
  intro listed a inv hfree hr hy H;have hun:=(mem_ready.1 hr).1;refine ⟨fun h=>(by rw [h] at hr;cases hr),fun j hj=>?_⟩;have hjn:j<n:=Nat.lt_of_not_le fun h=>absurd hj (hW listed inv i hin hun j h)
  refine ⟨hjn,?_⟩;by_cases hji:j=i
  ·subst hji;exact hy.qOp hi H
  ·have h1:=(H.2 j (ready_mono hj hji)).2
   obtain ⟨hjun,oj,hoj,hall⟩:=mem_ready.1 hj;have hnot:∀ e∈oj.after,Ybe md e=true->e.on≠i:=fun e he hb heq=>by
    have h1:=hall e he hb;rw [heq,getD_both hun] at h1
    cases h1
   have h2:=qOp_put hoj (hfree j oj hoj hji hjun hnot) (fun cs b=>hsel i oi cs b hi) (fun cs b=>hsel j oj cs b hoj) hy h1;have hfree':∀ k ok,ops[k]?=some ok->k≠i->(listed.setIfInBounds j true).getD k true=false ->
    (∀ e∈ok.after,Ybe md e=true->e.on≠i)->oi.apart ops ok=true:=fun k ok hk hki hku hno=>by
    refine hfree k ok hk hki ?_ hno;by_cases hjk:j=k
    ·subst hjk;exact hjun
    ·rw [getD_set_ne true hjk] at hku;exact hku
   refine qOp_mono (fun a' h3=>ih (listed.setIfInBounds j true) a' (inv.set hj hjn) hfree' (ready_mono hr (Ne.symm hji)) h3.1 ?_) h2;rw [Array.setIfInBounds_comm _ _ hji];exact h3.2
theorem Zd3 {n:Nat}{Lq:Act->Prop}(hsel:Yb3 ops=true)(hR:Zvo md ops n)(hn:n<=ops.size)(Lf:Array Bool)(hdone:∀ j∈Yav md ops Lf,n<=j) :
 ∀ (l:List Oper) (k:Nat) (listed:Array Bool) (a:Act),(∀ j,j<l.length->l[j]?=ops[k+j]?)->k+l.length=n->HeadInv md ops n listed->Zpe l.length k listed=Lf ->
 Z0b md ops n l.length k listed=true->wpQuiet P ops C Lq l a ->
 Zb7 P md ops C n (fun listed' a'=>listed'=Lf/\Lq a') l.length listed a
 | [],k,listed,a,_,hk,_,hE,hB,h=>⟨hE,h⟩
 | o::l,k,listed,a,hl,hk,inv,hE,hB,h=>by
  have h0:ops[k]?=some o:=by simpa using (hl 0 (by simp)).symm
  simp only [Yl,Z0b,Yp] at hB;obtain ⟨⟨hr,hf⟩,hB'⟩:=hB;have hkn:k<n:=by simp only [Yl] at hk;omega
  have hr':k∈Yav md ops listed:=by simpa using hr
  have hst:qOp P ops C k (wpQuiet P ops C Lq l) a:=by unfold qOp;simp only [h0];exact h
  obtain ⟨v,hy,hK⟩:=yieldsIn_of_qOp h0 hst;exact Zio h0 (Region.noSelect_spec hsel) hR hn hkn (fun listed' a' hL=>by rw [hL.1];exact hdone) l.length listed a inv (Region.free_spec h0 hf) hr' hy
   (Zd3 hsel hR hn Lf hdone l (k+1) _ _ (fun j hj=>by have:=hl (j+1) (by simp;omega);simpa [Nat.add_assoc,Nat.add_comm 1 j] using this) (by simp only [Yl] at hk;omega) (inv.set hr' hkn) hE hB' hK)
end
theorem Z2 {P:Program}{id:Nat}{Q:Exit->Act->World->Prop}{a:Act}{w:World}{l:List Oper}(n:Nat)(Lf:Array Bool)(hm:P.follows .mixedOrders=true)
 (hB:(Yb3 l.toArray && decide (n<l.toArray.size) && Zz2 .any l.toArray n && Z0b .any l.toArray n n 0 (Y4 l.toArray.size false) && decide (Zpe n 0 (Y4 l.toArray.size false)=Lf) && (Yav .any l.toArray Lf).all fun j=>decide (n<=j))=true)
 (h:wpQuiet P l.toArray (fun w'=>∃ x:Ext w,w'=x.val) (fun a'=>∀ w',(∃ x:Ext w,w'=x.val)->wpAny P .any l.toArray Q (l.toArray.size-n) Lf a' w') (l.take n) a):(Code.region id l.toArray true).wp P Q a w:=by
 simp only [Yp,decide_eq_true_eq] at hB;obtain ⟨⟨⟨⟨⟨hsel,hn⟩,hR⟩,hlex⟩,hE⟩,hd⟩:=hB;have hn':n<l.length:=by simpa using hn
 have htl:(l.take n).length=n:=by simp;omega
 have inv0:HeadInv .any l.toArray n (Y4 l.toArray.size false) :=
  ⟨by simp,fun j oj _ hl=>(by rw [getD_replicate_false] at hl;cases hl),fun t _ ht=>getD_in (by simpa using ht) (getD_replicate_false _ _)⟩
 have H:=Zd3 (md:=.any) hsel (Zqd hR) (Nat.le_of_lt hn) Lf (fun j hj=>by simpa using Yaz.1 hd j hj) (l.take n) 0 _ a (fun j hj=>by
  have hj':j<n:=by rw [htl] at hj;exact hj
  simp [hj']) (by simpa using htl) inv0 (by rw [htl];exact hE) (by rw [htl];exact hlex) h
 refine wp_region_any hm ?_;have h2:=Za8 (Q':=Q) (g:=l.toArray.size-n) (fun listed a' w' hw' hL=>by
  rw [hL.1];exact hL.2 w' hw') _ _ _ _ (⟨⟨_,Zfj w⟩,rfl⟩:∃ x:Ext w,{ w with drawn:=w.drawn+1 }=x.val) H
 have e:n+(l.toArray.size-n)=l.toArray.size:=by omega
 rw [htl,e] at h2;exact h2
end
end Go.Proofs.YtdeepoikgfaecaaGreatDoor
