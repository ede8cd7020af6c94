/- Parts. -/
import Derived.Test.YtdeepoikgfaecaaGreatDoorZGLay
import Derived.BigQuiet
import Derived.BigRegion
set_option linter.all false
set_option maxHeartbeats 8000000
open Go.Lib renaming hid->Ya,cell_of_heap->Yb,frozen_of_heap->Yao
open List renaming length_append->Yc,getElem?_eq_getElem->Yd,getElem?_eq_some_iff->Ye,getD_eq_getElem?_getD->Yk,getElem?_append_left->Yn,getElem?_append_right->Yo,length_map->Ys,range->Yz,take_succ_cons->Y7,length_take->Yaa,drop_succ_cons->Yab,take_length->Yag,take_zero->Yam,getElem_mem->Yap,drop_zero->Yas,getElem_of_mem->Yaw,map_append->Ya3,range_succ->Ych
open Nat renaming le_refl->Yf,le_of_lt->Ybi
open Go.AllReady renaming cons->Yg,nil->Yi
open Array renaming getElem?_eq_some_iff->Yh
open Go.RowKit.Below renaming refl->Yj,heap_setCell->Ya6
open Go.IntWalk renaming i64_in->Y6
namespace Go.Proofs.YtdeepoikgfaecaaGreatDoor
set_option maxRecDepth 100000
open Go.RowKit
structure NodesC (w:World)(F:Nat->Prop)(nc:List Value)(ns:List S.GN):Prop where
 len:nc.length=ns.length*2
 one:∀ u∈nc,u.oneCell'=true
 at_:∀ (i:Nat) (x:S.GN),ns[i]?=some x->nc[i*2]?=some (.int .u8 x.ty)/\(0<=x.ty/\x.ty<256)/\∃ A c,nc[i*2+1]?=some (.slice A x.ws.length c)/\x.ws.length<=c/\WordsF w F A x.ws
theorem NodesC.nil (w:World)(F:Nat->Prop):NodesC w F [] []:=⟨rfl,fun u hu=>(List.not_mem_nil hu).elim,fun i x hx=>by simp at hx⟩
theorem NodesC.snoc {w:World}{F:Nat->Prop}{nc:List Value}{ns:List S.GN}(h:NodesC w F nc ns){x:S.GN}{A:Option Addr}{c:Nat}(ht:0<=x.ty/\x.ty<256)(hc:x.ws.length<=c)(hw:WordsF w F A x.ws):NodesC w F (nc++[.int .u8 x.ty,.slice A x.ws.length c]) (ns++[x]):=by
 refine ⟨by rw [Yc,Yc,h.len];simp;omega,fun u hu=>?_,fun i y hy=>?_⟩
 ·rcases List.mem_append.1 hu with q | q
  ·exact h.one u q
  ·simp at q
   rcases q with rfl | rfl <;> rfl
 ·have hl:=h.len
  by_cases q:i<ns.length
  ·rw [Yn q] at hy
   obtain ⟨q1,q2,A',c',q3,q4⟩:=h.at_ i y hy;exact ⟨by rw [Yn (by omega)];exact q1,q2,A',c',by rw [Yn (by omega)];exact q3,q4⟩
  ·rw [Yo (by omega)] at hy
   have hi:i-ns.length=0:=by
    have:=(Ye.1 hy).1;simp at this;omega
   rw [hi] at hy
   cases hy
   exact ⟨by rw [Yo (by omega),show i*2-nc.length=0 from by omega];rfl,ht,A,c,by rw [Yo (by omega),show i*2+1-nc.length=1 from by omega];rfl,hc,hw⟩
theorem Zqw:(Tryz.prog.info? 42).map (fun i=>(i.zero,i.size,i.bytes))=some (some (.agg #[.int .u8 0,.slice none 0 0]),2,32):=by kernel_rfl
theorem WordsF.take {w:World}{F:Nat->Prop}{A:Option Addr}{l:List (Int×Int)}(h:WordsF w F A l)(n:Nat):WordsF w F A (l.take n):=fun hp=>by
 obtain ⟨b,off,e,h1,h2⟩:=h (by rw [Yaa] at hp;omega);refine ⟨b,off,e,h1,fun i x hx=>h2 i x ?_⟩;have hi:=(Ye.1 hx).1;rw [Yaa] at hi;rw [List.getElem?_take_of_lt (by omega)] at hx;exact hx
structure GMk (w:World)(base gb:Nat)(F:Nat->Prop)(w0:World)(ns:List S.GN)(ats:List Int)(vN vA:Value):Prop where
 blk:w.heap[gb]?=some (.cells #[vN,vA] 75 (0,0))
 nodes:∃ nc,w.ownsRow base 42 2 vN ns.length nc/\NodesC w0 F nc ns
 at_:w.ownsRow base 3 1 vA ats.length (ats.map (Value.int .i64))
theorem GMk.other {w w':World}{base gb xb:Nat}{F:Nat->Prop}{w0:World}{ns:List S.GN}{ats:List Int}{vN vA:Value}(h:GMk w base gb F w0 ns ats vN vA)(hb:Below w.heap.size w w')(hbw:base<=w.heap.size)(u:Value)(hx:w.heap.size<=xb):GMk (w'.setCell ⟨xb,1,none⟩ u) base gb F w0 ns ats vN vA:=by
 have hbb:Below w.heap.size w (w'.setCell ⟨xb,1,none⟩ u):=hb.setCell (p:=⟨xb,1,none⟩) hx u;obtain ⟨nc,h1,h2⟩:=h.nodes;exact ⟨(hbb.block gb (Yh.1 h.blk).1).trans h.blk,⟨nc,Zc h1 hbb,h2⟩,Zc h.at_ hbb⟩
theorem GMk.below {w w':World}{base gb:Nat}{F:Nat->Prop}{w0:World}{ns:List S.GN}{ats:List Int}{vN vA:Value}(h:GMk w base gb F w0 ns ats vN vA)(hbb:Below w.heap.size w w'):GMk w' base gb F w0 ns ats vN vA:=by
 obtain ⟨nc,h1,h2⟩:=h.nodes;exact ⟨(hbb.block gb (Yh.1 h.blk).1).trans h.blk,⟨nc,Zc h1 hbb,h2⟩,Zc h.at_ hbb⟩
theorem GMk.push {w w':World}{base gb:Nat}{F:Nat->Prop}{w0:World}{ns:List S.GN}{ats:List Int}{vN vA vN':Value}(h:GMk w base gb F w0 ns ats vN vA)(hgb:base<=gb){x:S.GN}{A:Option Addr}{c:Nat}(ht:0<=x.ty/\x.ty<256)(hc:x.ws.length<=c)(hw:WordsF w0 F A x.ws)
 {nc:List Value} (ho:w.ownsRow base 42 2 vN ns.length nc) (hnc:NodesC w0 F nc ns) (ho':w'.ownsRow base 42 2 vN' (ns.length+1) (nc++[.int .u8 x.ty,.slice A x.ws.length c])) (hg:w.grownBy w' vN.ownBlock) :
 GMk (w'.setCell ⟨gb,0,none⟩ vN') base gb F w0 (ns++[x]) ats vN' vA:=by
 have hk:w'.heap[gb]?=some (.cells #[vN,vA] 75 (0,0)):=(hg.block gb (Yh.1 h.blk).1 fun e=>Zx ho h.blk (by decide) e.symm).trans h.blk;have hat:w'.ownsRow base 3 1 vA ats.length (ats.map (Value.int .i64)):=Zu h.at_ fun k hk=>hg.block k (h.at_.lt k hk).2 fun e=>by
  rcases Zhu ho h.at_ (by decide) with q | q
  ·rw [q] at e;cases e
  ·exact q (e.symm.trans hk.symm)
 refine ⟨?_,⟨nc++[.int .u8 x.ty,.slice A x.ws.length c],?_,hnc.snoc ht hc hw⟩,?_⟩
 ·have:=heap_setCell_same w' gb 0 _ 75 vN' hk
  exact this
 ·rw [Yc]
  exact ownsRow_setCell_other (a:=⟨gb,0,none⟩) ho' (Zx ho' hk (by decide)) _
 ·exact ownsRow_setCell_other (a:=⟨gb,0,none⟩) hat (Zx hat hk (by decide)) _
theorem GMk.pushA {w w':World}{base gb:Nat}{F:Nat->Prop}{w0:World}{ns:List S.GN}{ats:List Int}{vN vA vA':Value}(h:GMk w base gb F w0 ns ats vN vA){t:Int}(ho':w'.ownsRow base 3 1 vA' (ats.length+1) (ats.map (Value.int .i64)++[.int .i64 t]))(hg:w.grownBy w' vA.ownBlock) :
 GMk (w'.setCell ⟨gb,1,none⟩ vA') base gb F w0 ns (ats++[t]) vN vA':=by
 have hk:w'.heap[gb]?=some (.cells #[vN,vA] 75 (0,0)):=(hg.block gb (Yh.1 h.blk).1 fun e=>Zx h.at_ h.blk (by decide) e.symm).trans h.blk;obtain ⟨nc,h1,h2⟩:=h.nodes;have hn:w'.ownsRow base 42 2 vN ns.length nc:=Zu h1 fun k hk=>hg.block k (h1.lt k hk).2 fun e=>by
  rcases Zhu h.at_ h1 (by decide) with q | q
  ·rw [q] at e;cases e
  ·exact q (e.symm.trans hk.symm)
 refine ⟨?_,⟨nc,ownsRow_setCell_other (a:=⟨gb,1,none⟩) hn (Zx hn hk (by decide)) _,h2⟩,?_⟩
 ·exact heap_setCell_same w' gb 1 _ 75 vA' hk
 ·rw [Yc,Ya3]
  exact ownsRow_setCell_other (a:=⟨gb,1,none⟩) ho' (Zx ho' hk (by decide)) _
theorem Zms (l:List S.GN):0<=S.sizes (l.map S.ah)/\S.sizes (l.map S.ah)<=13*l.length:=by
 induction l with
 | nil=>simp [S.sizes]
 | cons x r ih =>
  rw [List.map_cons,S.sizes,List.length_cons];have:(S.ah x).size=1+((x.ws.take 12).length:Int):=rfl;rw [Yaa] at this;omega
theorem Zmt (m:S.Mach)(f:Nat->List (Int×Int))(i:Nat):S.puts m ((Yz (i+1)).flatMap f)=S.puts (S.puts m ((Yz i).flatMap f)) (f i):=by
 rw [Ych,List.flatMap_append,Zb4];simp
theorem Zmu (m:S.Mach)(h:Int×Int)(f:Nat->Int×Int)(q:Nat):S.puts m (h::(Yz (q+1)).map f)=(S.puts m (h::(Yz q).map f)).putV (f q).1 (f q).2:=by
 rw [Ych,Ya3,<- List.cons_append,Zb4];rfl
theorem Zt1 {w w0:World}{gb:Nat}{F:Nat->Prop}{ns:List S.GN}{ats:List Int}{vN vA:Value}(h:GMk w w0.heap.size gb F w0 ns ats vN vA)(hb:Below w0.heap.size w0 w)(hgb:w0.heap.size<=gb)(hF:∀ k,F k->k<w0.heap.size)(hl:ats.length=ns.length)(h30:ns.length<=30)(h12:∀ x∈ns,x.ws.length<=12)(hr:∀ x∈ats,0<=x/\x<=335544320) :
 GAt w F gb ⟨ns,ats⟩:=by
 have hnF:∀ k,w0.heap.size<=k->¬ F k:=fun k hk hf=>by have:=hF k hf;omega
 obtain ⟨nc,h1,h2⟩:=h.nodes;obtain ⟨AN,cN,rfl⟩:=Za h1;have ha:=h.at_;obtain ⟨AA,cA,rfl⟩:=Za ha;refine ⟨⟨(Yh.1 h.blk).1,hnF gb hgb⟩,⟨AN,cN,AA,cA,h.blk,fun hp=>?_,Z15 ha hnF⟩,hl,h30,hr⟩;obtain ⟨g,rfl,hg1,hg2,hg3,hg4,_⟩:=Zau h1 hp;have hlen:=h2.len;refine ⟨g,0,rfl,⟨hg2,hnF g hg1⟩,fun i x hx=>?_⟩;obtain ⟨q1,q2,A,c,q3,q4,q5⟩:=h2.at_ i x hx;have hi:i<ns.length:=(Ye.1 hx).1;have l1:=hg4 (i*2) (by omega);have l2:=hg4 (i*2+1) (by omega);refine ⟨by rw [Nat.zero_add,l1];exact q1,q2,by have:=h12 x (List.mem_of_getElem? hx);omega,A,c,by rw [show 0+i*2+1=i*2+1 from by omega,l2];exact q3,q4,q5.pass (.of_below hb)⟩
theorem Zmv {ns:List S.GN}{k:Nat}(hk:k<=ns.length)(h:k=30\/(k=ns.length/\k<=30)):(ns.take k).map S.ah=S.ac ns:=by
 unfold S.ac;rcases h with rfl | ⟨rfl,h⟩
 ·rfl
 ·rw [Yag,List.take_of_length_le h]
theorem Zgt (ns:List S.GN):(S.ac ns).length<=30:=by
 unfold S.ac;rw [Ys,Yaa];omega
theorem Zji (ns:List S.GN):∀ x∈S.ac ns,x.ws.length<=12:=fun x hx=>by
 unfold S.ac at hx;obtain ⟨y,_,rfl⟩:=List.mem_map.1 hx
 show (y.ws.take 12).length<=12
 rw [Yaa];omega
theorem Zbx (ns:List S.GN):0<=S.sizes (S.ac ns)/\S.sizes (S.ac ns)<=390:=by
 have:=Zms (ns.take 30);rw [Yaa] at this;have e:S.ac ns=(ns.take 30).map S.ah:=rfl;rw [e];omega
section
variable {w w':World}{F:Nat->Prop}{lo b p:Nat}{H half:Int}{P:List (ByteArray×Int)}{m:S.Mach}
def Z16 (w:World)(lo b p:Nat)(F:Nat->Prop)(H half:Int)(P:List (ByteArray×Int))(m:S.Mach)(ns:List S.GN)(e:Ending)(w':World):Prop :=
 (m.rd 27<m.rd 26+S.sizes (S.ac ns)/\e=.returned (.pointer none)/\Below w.heap.size w w') \/
 (m.rd 26+S.sizes (S.ac ns)<=m.rd 27/\∃ gb,e=.returned (.pointer (some ⟨gb,0,none⟩))/\GAt w' F gb (S.aj ns (m.rd 26))/\KAt w' lo b p F H half P ((S.aq (S.aj ns (m.rd 26)) m).setV 26 (m.rd 26+S.sizes (S.ac ns)))/\Only F w w')
theorem Z04 (hK:KAt w lo b p F H half P m)(An:Option Addr)(cn:Nat)(ns:List S.GN)(hn:NodesF w F An ns)(hnl:ns.length<=9223372036854775807)(ha:0<=m.rd 26/\m.rd 26<=300000000)(hgo:(S.aj ns (m.rd 26)).Ok (m.rd 26))(hml:m.mem.length<=335544320) :
 Calls Tryz.prog 11 #[.pointer (some ⟨b,0,none⟩),.slice An ns.length cn] w (Z16 w lo b p F H half P m ns):=by
 have HK:=Ya hK;have HN:=Ya hn;obtain ⟨N,hN⟩:=Yx ns.length;have HNl:=Ya hN;rw [<- hN] at hnl ⊢;obtain ⟨a,hae⟩:=Yx (m.rd 26);have HA:=Ya hae;rw [<- hae] at ha hgo;have HGo:=Ya hgo;have HKF:=Ya (show ∀ k,F k->k<w.heap.size from fun k hk=>(hK.lt k hk).2);clear hK hn hN hae hgo;go_enter Tryz.func11,Tryz.ntmps11
 go_upto_region 2 with fail
 have hb1:Below w.heap.size w (w.alloc (.cells #[.slice none 0 0,.slice none 0 0] 75)):=(Yj _ _).alloc (Yf _) _;have hr1:=heap_alloc_new w (.cells #[.slice none 0 0,.slice none 0 0] 75);generalize w.alloc (.cells #[.slice none 0 0,.slice none 0 0] 75)=w1 at *;have HK1:=Ya (HK.out.below hb1);obtain ⟨_,_,_,_,_,_,e0,e1,e2,e3,e4⟩:=HK1.out.cells;have hbl:=HK1.out.blt;have er:m.regV 26=a:=by rw [Zck (by decide) (by decide)];exact HA.out.symm
 have l1:a%18446744073709551616=a:=by omega
 have hreg:=Zfy 26 HK1.out;rw [er] at hreg;have Hreg:=Ya hreg;have HM1:Hid (GMk w1 w.heap.size w.heap.size F w [] [] (.slice none 0 0) (.slice none 0 0)):=Ya ⟨hr1,⟨[],World.ownsRow_nil _ _ _ _,NodesC.nil _ _⟩,World.ownsRow_nil _ _ _ _⟩;have HB1:=Ya hb1;clear hr1 hb1 hreg er;go_wp2_with fail
 refine Hreg.out.mono ?_;rintro e _ ⟨rfl,rfl⟩;clear e0 e1 e2 e3 e4 hbl Hreg HK1;go_wp2_with fail
 clear l1;go_loopw [6,7] (fun v6 v7 wl=>∃ k:Nat,k<=N/\k<=30/\v7=.int .i64 k/\(∃ t:Int,v6=.int .i64 t/\Hid (t=a+S.sizes ((ns.take k).map S.ah)))/\(∃ vN vA,Hid (GMk wl w.heap.size w.heap.size F w ((ns.take k).map S.ah) (S.addrsFrom a ((ns.take k).map S.ah)) vN vA))/\Hid (Below w.heap.size w wl)) (fun _ v7 _=>N-(intOf v7).toNat)
 case atStart=>exact ⟨0,by omega,by omega,rfl,⟨a,rfl,Ya (by simp [S.sizes])⟩,⟨_,_,HM1⟩,HB1⟩
 case round =>
  obtain ⟨k,hk,hk30,rfl,⟨t,rfl,Ht⟩,⟨vN,vA,HM⟩,HB⟩:=hrel;have hz:=HB.out.size;by_cases hlt:k<N
  ·by_cases h30:k<30
   ·have hkl:k<ns.length:=by rw [<- HNl.out];exact hlt
    obtain ⟨bn,on,hAn,hbn,hcn⟩:=HN.out (by omega);obtain ⟨y0,y1,y2,Aw,cw,y3,y4,hww⟩:=hcn k ns[k] (Yd hkl);have Htk:=Ya (show (ns.take (k+1)).map S.ah=(ns.take k).map S.ah++[S.ah ns[k]] from by rw [List.take_add_one,Yd hkl,Ya3];rfl);obtain ⟨x,hx⟩:=Yx ns[k];rw [<- hx] at y0 y1 y2 y3 y4 hww Htk;obtain ⟨ty,ws⟩:=x;simp only at y0 y1 y2 y3 y4 hww;obtain ⟨NW,hNW⟩:=Yx ws.length;have HNW:=Ya hNW;rw [<- hNW] at y2 y3 y4;have hbn0:=hbn.1;have hbn1:bn<wr.heap.size:=by omega
    replace y0:=(HB.out.cell (p:=⟨bn,on+k*2,none⟩) hbn0).trans y0
    replace y3:=(HB.out.cell (p:=⟨bn,on+k*2+1,none⟩) hbn0).trans y3
    subst hAn;have HW:=Ya hww;clear hcn hx hNW hww hbn;have d30:decide ((k:Int)<30)=true:=by simp;omega
    go_upto_region 7 with fail
    have Hb2:=Ya ((Yj wr.heap.size wr).alloc (Yf _) (.cells #[.int .u8 ty,.slice Aw NW cw] 42));have hr2:=heap_alloc_new wr (.cells #[.int .u8 ty,.slice Aw NW cw] 42);generalize wr.alloc (.cells #[.int .u8 ty,.slice Aw NW cw] 42)=w2 at *;have hz2:=Hb2.out.size;have hlt2:wr.heap.size<w2.heap.size:=(Yh.1 hr2).1;have x0:w2.cell? ⟨wr.heap.size,0,none⟩=some (.int .u8 ty):=by rw [Yb hr2];rfl
    have x1:w2.cell? ⟨wr.heap.size,1,none⟩=some (.slice Aw NW cw):=by rw [Yb hr2];rfl
    have xf:w2.frozen? ⟨wr.heap.size,1,none⟩=false:=Yao hr2 1;go_upto_region 8 with fail
    obtain ⟨M,hM⟩:∃ M:Nat,min (NW:Int) 12=M:=⟨(min (NW:Int) 12).toNat,by omega⟩
    simp only [hM,Int.toNat_natCast];have hM12:M<=12/\M<=NW:=by omega
    have hMl:M=(ws.take 12).length:=by rw [Yaa,<- HNW.out];omega
    have HMl:=Ya hMl;clear hMl;have hgw:w.heap.size<wr.heap.size:=(Yh.1 HM.out.blk).1;have HM3:Hid ((w2.setCell ⟨wr.heap.size,1,none⟩ (.slice Aw M cw)).heap[wr.heap.size]?=some (.cells #[.int .u8 ty,.slice Aw M cw] 42)):=Ya (heap_setCell_same w2 wr.heap.size 1 _ 42 _ hr2);have HG3:=Ya (GMk.other HM.out Hb2.out hz (.slice Aw M cw) (xb:=wr.heap.size) (Yf _));have HB3:=Ya ((HB.out.trans (Hb2.out.mono hz)).setCell (p:=⟨wr.heap.size,1,none⟩) hz (.slice Aw M cw));have hz3:(w2.setCell ⟨wr.heap.size,1,none⟩ (.slice Aw M cw)).heap.size=w2.heap.size:=by simp [World.setCell]
    generalize w2.setCell ⟨wr.heap.size,1,none⟩ (.slice Aw M cw)=w3 at *;have hNlt:∀ q,vN.ownBlock=some q->q<wr.heap.size:=fun q hq=>by
     obtain ⟨nc,h1,h2⟩:=HM.out.nodes;exact (h1.lt q hq).2
    have HNlt:=Ya hNlt;clear hr2 x0 x1 xf Hb2 hM y0 y3 hbn0 hbn1 HB hNlt
    go_cut [49] (fun v wc=>∃ vN',Hid (GMk wc w.heap.size w.heap.size F w ((ns.take (k+1)).map S.ah) (S.addrsFrom a ((ns.take k).map S.ah)) vN' vA)/\Hid (wc.heap[wr.heap.size]?=some (.cells #[.int .u8 ty,.slice Aw M cw] 42))/\Hid (Below w.heap.size w wc))
    case first =>
     refine wp_region_any (by kernel_rfl) ?_;change wpAny _ _ _ _ _ _ _ (World.drew w3);have hdb:Below w3.heap.size w3 w3.drew:=Zef (Yj _ _);have HG4:=Ya (HG3.out.below hdb);have HM4:=Ya ((hdb.block wr.heap.size (by omega)).trans HM3.out);have HB4:=Ya (HB3.out.trans (hdb.mono (by omega)));have hz4:w2.heap.size<=w3.drew.heap.size:=by have:=hdb.size;omega
     clear hdb HG3 HM3 HB3;generalize w3.drew=w4 at *;have x0:w4.cell? ⟨wr.heap.size,0,none⟩=some (.int .u8 ty):=by rw [Yb HM4.out];rfl
     have x1:w4.cell? ⟨wr.heap.size,1,none⟩=some (.slice Aw M cw):=by rw [Yb HM4.out];rfl
     have g0:w4.cell? ⟨w.heap.size,0,none⟩=some vN:=by rw [Yb HG4.out.blk];rfl
     have hx4:wr.heap.size<w4.heap.size:=by omega
     have hg4:w.heap.size<w4.heap.size:=by omega
     obtain ⟨nc,hnr,hnc⟩:=HG4.out.nodes;obtain ⟨AN,cN,rfl⟩:=Za hnr;have hkl:((ns.take k).map S.ah).length=k:=by rw [Ys,Yaa,<- HNl.out];omega
     rw [hkl] at hnr g0;have HNr:=Ya hnr;have HNC:=Ya hnc;have HKl:=Ya hkl;clear hnr hnc hkl;refine wpAny_take (i:=0) (v:=?v0n1) rfl (by kernel_rfl) (by kernel_rfl) (by kernel_rfl) (fun _ _ _ h=>h) (Or.inl ⟨by rfl,?y0n1⟩) ?z0n1
     case y0n1=>(intro w;first | (go_simp;done) | (go_simp;with_reducible rfl))
     refine wpAny_take (i:=1) (v:=?v1n2) rfl (by kernel_rfl) (by kernel_rfl) (by kernel_rfl) (fun _ _ _ h=>h) (Or.inl ⟨by rfl,?y1n2⟩) ?z1n2
     case y1n2=>(intro w;first | (go_simp;done) | (go_simp;with_reducible rfl))
     refine wpAny_take (i:=2) (v:=?v2n3) rfl (by kernel_rfl) (by kernel_rfl) (by kernel_rfl) (fun _ _ _ h=>h) (Or.inl ⟨by rfl,?y2n3⟩) ?z2n3
     case y2n3=>(intro w;first | (go_simp;done) | (go_simp;with_reducible rfl))
     refine wpAny_take (i:=3) (v:=?v3n4) rfl (by kernel_rfl) (by kernel_rfl) (by kernel_rfl) (fun _ _ _ h=>h) (Or.inl ⟨by rfl,?y3n4⟩) ?z3n4
     case y3n4=>(intro w;first | (go_simp;done) | (go_simp;with_reducible rfl))
     refine wpAny_ready (rs:=[4,5]) (by kernel_rfl) (by simp) ?_;refine Yg rfl (fun K hK=>?_) (Yg rfl (fun K hK=>?_) Yi);go_simp
     refine hK _ _ ?_;clear hK K;refine wpAny_ready (rs:=[5]) (by kernel_rfl) (by simp) ?_;refine Yg rfl (fun K hK=>?_) Yi;go_simp
     refine hK _ _ ?_;clear hK K;refine wpAny_ready (rs:=[6]) (by kernel_rfl) (by simp) ?_;refine Yg rfl (fun K hK=>?_) Yi;go_simp
     refine hK _ _ ?_;clear hK K
     rotate_left
     go_simp
     refine hK _ _ ?_;clear hK K;refine wpAny_ready (rs:=[4,6]) (by kernel_rfl) (by simp) ?_;refine Yg rfl (fun K hK=>?_) (Yg rfl (fun K hK=>?_) Yi);go_simp
     refine hK _ _ ?_;clear hK K;refine wpAny_ready (rs:=[6]) (by kernel_rfl) (by simp) ?_;refine Yg rfl (fun K hK=>?_) Yi;go_simp
     refine hK _ _ ?_;clear hK K
     rotate_left
     go_simp
     refine hK _ _ ?_;clear hK K;refine wpAny_ready (rs:=[4]) (by kernel_rfl) (by simp) ?_;refine Yg rfl (fun K hK=>?_) Yi;go_simp
     refine hK _ _ ?_;clear hK K
     all_goals
      refine wpAny_ready (rs:=[7]) (by kernel_rfl) (by simp) ?_;refine Yg rfl (fun K hK=>?_) Yi;rw [if_pos (by simp [Region.wanted])];refine Zc9 (.tmp 46) (.tmp 48) _ rfl w.heap.size 42 Zqw Tryz.underlying43 rfl (by decide) #[.int .u8 ty,.slice Aw M cw] _ k _ rfl HNr.out rfl rfl rfl (by simp [Value.oneCell']) (by simp only [maxLen];omega) (by omega) (by omega) ?_;intro v' w7 ho7 hg7 hb7 _;obtain ⟨A8,c8,rfl⟩:=Za ho7;have hk7:w7.heap[w.heap.size]?=some (.cells #[_,vA] 75 (0,0)):=(hg7.block w.heap.size hg4 (fun e=>Zx HNr.out HG4.out.blk (by decide) e.symm)).trans HG4.out.blk;have f7:w7.frozen? ⟨w.heap.size,0,none⟩=false:=Yao hk7 0;have d7:∃ u,w7.cell? ⟨w.heap.size,0,none⟩=some u:=⟨_,by rw [Yb hk7];rfl⟩
      obtain ⟨u7,d7⟩:=d7;refine hK _ _ ?_;clear hK K;go_simp
      refine wpAny_take (i:=8) (v:=?_) rfl (by kernel_rfl) (by kernel_rfl) (by kernel_rfl) (fun _ _ _ h=>h) (Or.inl ⟨by rfl,?_⟩) ?_
      rotate_left
      ·(intro w;first | (go_simp;done) | (go_simp;with_reducible rfl))
      refine wpAny_take (i:=9) (v:=?_) rfl (by kernel_rfl) (by kernel_rfl) (by kernel_rfl) (fun _ _ _ h=>h) (Or.inl ⟨by rfl,?_⟩) ?_
      rotate_left
      ·(intro w;first | (go_simp;done) | (go_simp;with_reducible rfl))
      refine wpAny_ready (rs:=[10]) (by kernel_rfl) (by simp) ?_;refine Yg rfl (fun K hK=>?_) Yi;go_simp
      refine hK _ _ ?_;clear hK K;refine wpAny_done (by kernel_rfl) ?_ _;go_wp2_with fail
      go_meet
      have hg7':w4.grownBy w7 (Value.slice AN ((ns.take k).map S.ah).length cN).ownBlock:=by
       rw [Zbf AN _ cN k cN];exact hg7
      refine ⟨.slice A8 (k+1) c8,Ya ?_,Ya ?_,Ya ?_⟩
      ·rw [Htk.out]
       refine GMk.push (x:=S.ah ⟨ty,ws⟩) (A:=Aw) (c:=cw) HG4.out (Yf _) y1 ?_ (HW.out.take 12) (nc:=nc) ?_ HNC.out ?_ hg7'
       ·show (ws.take 12).length<=cw
        rw [<- HMl.out];omega
       ·rw [HKl.out]
        exact HNr.out
       ·rw [HKl.out]
        have h:=ho7;rw [HMl.out] at h;exact h
      ·rw [Ya6 _ _ _ _ (show wr.heap.size≠w.heap.size by omega)]
       rw [<- HM4.out];exact hg7.block wr.heap.size hx4 fun e=>by
        have:=HNlt.out wr.heap.size ((Zbf AN _ cN k cN).trans e.symm);omega
      ·exact (HB4.out.trans hb7).setCell (p:=⟨w.heap.size,0,none⟩) (Yf _) _
    case rest =>
     clear HG3 HM3 HB3 hz3 HM;obtain ⟨vN',HM,HX,HB⟩:=hcut;have hxlt:wr.heap.size<wc.heap.size:=(Yh.1 HX.out).1;have hglt:w.heap.size<wc.heap.size:=(Yh.1 HM.out.blk).1;have hka:(S.addrsFrom a ((ns.take k).map S.ah)).length=k:=by rw [Zah,Ys,Yaa,<- HNl.out];omega
     have hAr:=HM.out.at_;have hAe:=Za hAr;obtain ⟨AA,cA,rfl⟩:=hAe;have g1:wc.cell? ⟨w.heap.size,1,none⟩=some (.slice AA (S.addrsFrom a ((ns.take k).map S.ah)).length cA):=by rw [Yb HM.out.blk];rfl
     rw [hka] at hAr g1;have HAr:=Ya hAr;have HKa:=Ya hka;have hts:=Zms (ns.take k);have htb:0<=t/\t<=300000400:=by
      rw [Ht.out];rw [Yaa] at hts;omega
     clear hAr hka hts;go_upto_region 10 with (at_builtin;refine Zo rfl (.tmp 56) (.tmp 58) _ rfl w.heap.size 3 Ze0 Tryz.underlying35 rfl (by decide) #[.int .i64 t] _ k _ rfl HAr.out rfl rfl rfl (by simp [Value.oneCell']) (by simp only [maxLen];omega) (by omega) (Ybi hglt) ?_;intro v' w7 ho7 hg7 hb7 _;obtain ⟨A8,c8,rfl⟩:=Za ho7;have hk7:=(hg7.block w.heap.size hglt (fun e=>Zx HAr.out HM.out.blk (by decide) e.symm)).trans HM.out.blk;have f7:w7.frozen? ⟨w.heap.size,1,none⟩=false:=Yao hk7 1;have d7:∃ u,w7.cell? ⟨w.heap.size,1,none⟩=some u:=⟨_,by rw [Yb hk7];rfl⟩;obtain ⟨u7,d7⟩:=d7)
     have HM7:=Ya (GMk.pushA HM.out (t:=t) (vA':=.slice A8 (k+1) c8) (by rw [HKa.out];exact ho7) (by rw [Zbf AA _ cA k cA];exact hg7));have hX7:w7.heap[wr.heap.size]?=some (.cells #[.int .u8 ty,.slice Aw M cw] 42):=(hg7.block wr.heap.size hxlt fun e=>Zx HAr.out HX.out (by decide) e.symm).trans HX.out;have HX7:Hid ((w7.setCell ⟨w.heap.size,1,none⟩ (.slice A8 (k+1) c8)).heap[wr.heap.size]?=some (.cells #[.int .u8 ty,.slice Aw M cw] 42)):=Ya (by
      rw [Ya6 _ _ _ _ (show wr.heap.size≠w.heap.size by omega)];exact hX7)
     have HB7:=Ya ((HB.out.trans hb7).setCell (p:=⟨w.heap.size,1,none⟩) (Yf _) (.slice A8 (k+1) c8));clear hk7 f7 d7 hX7 ho7 hg7 hb7 HM HX HB g1;generalize w7.setCell ⟨w.heap.size,1,none⟩ (.slice A8 (k+1) c8)=w8 at *;have hx8:wr.heap.size<w8.heap.size:=(Yh.1 HX7.out).1;have x1:w8.cell? ⟨wr.heap.size,1,none⟩=some (.slice Aw M cw):=by rw [Yb HX7.out];rfl
     have q1:IntKind.i64.wrap (t+1)=t+1:=Y6 _ ⟨by omega,by omega⟩;have q2:IntKind.i64.wrap (t+1+M)=t+1+M:=Y6 _ ⟨by omega,by omega⟩;have Ht2:=Ya (show t+1+M=a+S.sizes ((ns.take (k+1)).map S.ah) by
      rw [Htk.out,Zgb,Ht.out];have e:S.sizes [S.ah ⟨ty,ws⟩]=1+((ws.take 12).length:Int)+0:=rfl;rw [e,<- HMl.out];omega)
     have HM8:=Ya (show GMk w8 w.heap.size w.heap.size F w ((ns.take (k+1)).map S.ah) (S.addrsFrom a ((ns.take (k+1)).map S.ah)) vN' (.slice A8 (k+1) c8) by
      have h:=HM7.out;have e:S.addrsFrom a ((ns.take (k+1)).map S.ah)=S.addrsFrom a ((ns.take k).map S.ah)++[t]:=by
       rw [Htk.out,Zdr,<- Ht.out];rfl
      rw [e];exact h)
     clear HM7;go_wp2_with fail
     go_roundw
     case rel=>exact ⟨k+1,by omega,by omega,by go_num,⟨_,rfl,Ht2⟩,⟨_,_,HM8⟩,HB7⟩
     case measure=>simp [intOf];omega
   ·have d30:decide ((k:Int)<30)=false:=by simp;omega
    have hlt':(ns.take k).map S.ah=S.ac ns:=Zmv (by rw [<- HNl.out];exact hk) (.inl (by omega));rw [hlt'] at HM Ht;clear hlt';have HGA:=Ya (Zt1 HM.out HB.out (Yf _) HKF.out (Zah _ _) (Zgt ns) (Zji ns) (fun x hx=>by
     obtain ⟨i,hi,e⟩:=Yaw hx;have hi':i<(S.ac ns).length:=by rw [Zah] at hi;exact hi
     have h:=Zcj (a:=a) hi';rw [Yd hi,e] at h
     cases h
     have h1:=Zbk ((S.ac ns).take i);have h2:=Zc1 (S.ac ns) i (S.ac ns).length (Ybi hi');rw [Yag] at h2;have h3:=Zbx ns;omega))
    have hsz:=Zbx ns;have htb:0<=t/\t<=300000400:=by rw [Ht.out];omega
    clear HM hsz;have HKr:=Ya (HK.out.below HB.out);obtain ⟨_,_,_,_,_,_,e0,e1,e2,e3,e4⟩:=HKr.out.cells;have hbl:=HKr.out.blt;obtain ⟨r27,hr27⟩:∃ r,r=m.rd 27:=⟨_,rfl⟩
    have HR27:=Ya hr27;have hr27b:0<=r27/\r27<=4294967295:=by rw [hr27];exact HKr.out.ok.word _
    have hreg:=Zfy 27 HKr.out;rw [Zck (by decide) (by decide),<- hr27] at hreg;have Hreg:=Ya hreg;have q1:r27%18446744073709551616=r27:=by omega
    clear hreg hr27;go_wp2_with fail
    refine Hreg.out.mono ?_;rintro e _ ⟨rfl,rfl⟩;clear Hreg;by_cases hbig:t>r27
    ·have d1:decide (t>r27)=true:=by simp [hbig]
     have Hbig:=Ya hbig;clear hbig;go_wp2_with fail
     refine bodyPost_ret (v:=.pointer none) (results_tmp Tryz.results11 _ _ _) rfl (.inl ⟨?_,rfl,HB.out⟩);have h1:=Hbig.out;rw [Ht.out,HR27.out] at h1;rw [<- HA.out];exact h1
    ·have d1:decide (t>r27)=false:=by simp;omega
     have Hbig:=Ya (show t<=r27 by omega);clear hbig;go_wp2_with fail
     generalize hgg:S.aj ns a=g at *;have hgns:g.ns=S.ac ns:=by rw [<- hgg];rfl
     have HGA':Hid (GAt wr F w.heap.size g):=Ya (by rw [<- hgg];exact HGA.out);have Hgg:=Ya hgg;have HGns:=Ya hgns;have HOn:=Ya (Only.of_below (F:=F) HB.out);have HK0:Hid (KAt wr lo b p F H half P (S.puts m ((Yz 0).flatMap (S.ab g)))):=Ya HKr.out;obtain ⟨G,hG⟩:=Yx g.ns.length;have HG:=Ya hG;have hG30:G<=30:=by rw [hG,hgns];exact Zgt ns
     clear hgg hgns HGA hG e0 e1 e2 e3 e4 hbl HKr q1;go_wp2_with fail
     go_loopw [9] (fun v9 wl=>∃ i:Nat,i<=G/\v9=.int .i64 i/\Hid (KAt wl lo b p F H half P (S.puts m ((Yz i).flatMap (S.ab g))))/\Hid (Only F w wl)/\Hid (GAt wl F w.heap.size g)) (fun v9 _=>G-(intOf v9).toNat)
     case atStart=>exact ⟨0,by omega,rfl,HK0,HOn,HGA'⟩
     case round =>
      clear HK0 HOn HGA' HB;obtain ⟨i,hi,rfl,HKi,HOi,HGi⟩:=hrel;have hzi:=HOi.out.size;by_cases hlg:i<G
      ·obtain ⟨An',cn',Aa',ca',d0,d1,d2,d3⟩:=HGi.out.cells
       have hgb:=HGi.out.out.1;have hil:i<g.ns.length:=by rw [<- HG.out];exact hlg
       obtain ⟨bn,on,hAn',hbn,hcn⟩:=d2 (by omega);obtain ⟨y0,y1,y2,Aw,cw,y3,y4,hww⟩:=hcn i (g.nd i) (Zdm HGo.out hil).1;have hal:g.at_.length=G:=by rw [HGi.out.len,<- HG.out]
       obtain ⟨ba,oa,hAa',hba,hva⟩:=Zkt d3 (show i<g.at_.length by rw [hal];exact hlg);have hwl:=HGo.out.short _ (Zdm HGo.out hil).2;obtain ⟨nd,hnd⟩:=Yx (g.nd i);have Hnd:=Ya hnd;rw [<- hnd] at y0 y1 y2 y3 y4 hww hwl;obtain ⟨ty,ws⟩:=nd;simp only at y0 y1 y2 y3 y4 hww hwl;obtain ⟨NW,hNW⟩:=Yx ws.length;have HNW:=Ya hNW;rw [<- hNW] at y2 y3 y4 hwl;obtain ⟨v,hv⟩:=Yx (g.at_.getD i 0);have Hv:Hid (v=g.adr i):=Ya hv;have hvb:0<=v/\v<=335544320:=by
        rw [hv,Yk,Yd (by rw [hal];exact hlg)];exact HGi.out.rng _ (Yap _)
       rw [<- hv] at hva;rw [hal] at d1;rw [<- HG.out] at d0;have hbn1:=hbn.1;have HW:=Ya hww;subst hAn' hAa';clear hcn hnd hNW hv hww hbn d2 d3 hal hil;go_upto_region 17 with fail
       have Hb3:=Ya ((Yj wr.heap.size wr).alloc (Yf _) (.cells #[.int .u8 ty,.slice Aw NW cw] 42));have hr3:=heap_alloc_new wr (.cells #[.int .u8 ty,.slice Aw NW cw] 42);generalize wr.alloc (.cells #[.int .u8 ty,.slice Aw NW cw] 42)=w3 at *;have hz3:=Hb3.out.size;have HK3:=Ya (HKi.out.below Hb3.out);have HG3:=Ya (HGi.out.below Hb3.out);have HO3:=Ya (HOi.out.trans (Only.of_below (F:=F) Hb3.out) fun _ _ q=>q);have hlt3:wr.heap.size<w3.heap.size:=(Yh.1 hr3).1;have x0:w3.cell? ⟨wr.heap.size,0,none⟩=some (.int .u8 ty):=by rw [Yb hr3];rfl
       have x1:w3.cell? ⟨wr.heap.size,1,none⟩=some (.slice Aw NW cw):=by rw [Yb hr3];rfl
       have g1:w3.cell? ⟨w.heap.size,1,none⟩=some (.slice (some ⟨ba,oa,none⟩) G ca'):=(Hb3.out.cell (p:=⟨w.heap.size,1,none⟩) hgb).trans d1;have v3:w3.cell? ⟨ba,oa+i,none⟩=some (.int .i64 v):=(Hb3.out.cell (p:=⟨ba,oa+i,none⟩) hba).trans hva;have hgb3:w.heap.size<w3.heap.size:=by omega
       have hba3:ba<w3.heap.size:=by omega
       have HX3:=Ya hr3;obtain ⟨_,_,_,_,_,_,e0,e1,e2,e3,e4⟩:=HK3.out.cells;have hbl:=HK3.out.blt;have l6:bits .or .i64 (bits .or .i64 ((NW:Int)*32) (ty%8*4)) 3%4294967296=S.headW ty NW:=Zhl ty NW y1.1 (by omega);have hhd:0<=S.headW ty NW/\S.headW ty NW<=4294967295:=by unfold S.headW;omega
       have hxb:w.heap.size<=wr.heap.size:=hzi;clear d0 d1 y0 y3 hr3 hva HKi HGi HOi hgb hba hbn1;obtain ⟨xb,hxbe⟩:=Yx wr.heap.size;rw [<- hxbe] at HX3 x0 x1 hlt3 hxb ⊢;have hz3':xb<=w3.heap.size:=Ybi hlt3;clear hxbe;refine Zi 23 (by kernel_rfl) (by kernel_rfl) ?_;have hE:=Ze w3;simp only [Y7,Yam,Yab,Yas]
       repeat (first | go_big_quiet_step (fail))
       refine wpQuiet_nil ?_;rintro w4 ⟨⟨_,hb4⟩,rfl⟩;have HK4:=Ya (HK3.out.below hb4);have HG4:=Ya (HG3.out.below hb4);have HO4:=Ya (HO3.out.trans (Only.of_below (F:=F) hb4) fun _ _ q=>q);have HbW:=Ya (Hb3.out.trans (hb4.mono hz3));have HX4:=Ya ((hb4.block xb hlt3).trans HX3.out);clear hE hb4 HK3 HG3 HO3 HX3 e0 e1 e2 e3 e4 hbl x0 x1 g1 v3;go_wp2_with fail
       rw [l6];refine (Zd9 v (S.headW ty NW) HK4.out hhd).mono ?_;rintro e w5 ⟨rv,rfl,hk5,ho5⟩;have hxF:¬ F xb:=fun q=>by have:=HKF.out xb q;omega
       have hx4:xb<w4.heap.size:=(Yh.1 HX4.out).1;have HX5:=Ya ((ho5.block xb hx4 hxF).trans HX4.out);have HG5:=Ya (HG4.out.pass (.of_only ho5));have HO5:=Ya (HO4.out.trans ho5 fun _ _ q=>q);obtain ⟨mi,hmi⟩:=Yx (S.puts m ((Yz i).flatMap (S.ab g)));have Hmi:=Ya hmi;have HK5:Hid (KAt w5 lo b p F H half P (S.puts mi ((v,S.headW ty NW)::(Yz 0).map fun k=>(v+1+(k:Nat),g.word (ws.getD k (0,0)))))):=Ya (by rw [hmi];exact hk5);have HW5:Hid (WordsF w5 F Aw ws):=Ya ((HW.out.pass (.of_below (F:=F) HbW.out)).pass (.of_only ho5));clear hk5 ho5 HK4 HG4 HO4 HX4 l6 hhd hmi;go_wp2_with fail
       go_loopw [11] (fun v11 wl=>∃ q:Nat,q<=NW/\v11=.int .i64 q/\Hid (KAt wl lo b p F H half P (S.puts mi ((v,S.headW ty NW)::(Yz q).map fun k=>(v+1+(k:Nat),g.word (ws.getD k (0,0))))))/\Hid (Only F w wl)/\Hid (GAt wl F w.heap.size g)/\Hid (WordsF wl F Aw ws)/\Hid (wl.heap[xb]?=some (.cells #[.int .u8 ty,.slice Aw NW cw] 42))) (fun v11 _=>NW-(intOf v11).toNat)
       case atStart=>exact ⟨0,by omega,rfl,HK5,HO5,HG5,HW5,HX5⟩
       case round =>
        clear HK5 HO5 HG5 HX5;obtain ⟨q,hq,rfl,HKq,HOq,HGq,HWq,HXq⟩:=hrel;have hxq:xb<wr.heap.size:=(Yh.1 HXq.out).1;have x1:wr.cell? ⟨xb,1,none⟩=some (.slice Aw NW cw):=by rw [Yb HXq.out];rfl
        by_cases hlq:q<NW
        ·have hqw:q<ws.length:=by rw [<- HNW.out];exact hlq
         obtain ⟨bw,ow,hAw,hbw,hcw⟩:=HWq.out (by omega);obtain ⟨z0,z1,z2,z3,z4,z5⟩:=hcw q ws[q] (Yd hqw);have hbw1:=hbw.1;have Hwq:=Ya (show ws.getD q (0,0)=ws[q] by rw [Yk,Yd hqw];rfl);obtain ⟨x,hx⟩:=Yx ws[q];rw [<- hx] at z0 z1 z2 z3 z4 z5 Hwq;obtain ⟨u,s⟩:=x;simp only at z0 z1 z2 z3 z4 z5;obtain ⟨An2,cn2,Aa2,ca2,d0,d1,d2,d3⟩:=HGq.out.cells;have hgb:=HGq.out.out.1;have hal:g.at_.length=G:=by rw [HGq.out.len,<- HG.out]
         obtain ⟨ba2,oa2,hAa2,hba2,hva2⟩:=Zkt d3 (show i<g.at_.length by rw [hal];exact hlg);rw [hal] at d1;have Hv':g.at_.getD i 0=v:=Hv.out.symm;rw [Hv'] at hva2;obtain ⟨gwv,hgwv⟩:=Yx (g.word (u,s));have hgf:=Zbw HGo.out (x:=(u,s)) ⟨z2,z3,z4⟩ (by rw [HGns.out];have:=Zbx ns;omega);rw [<- hgwv] at hgf;have Hgw:=Ya (show ∀ y:Ext wr,Calls Tryz.prog 31 #[.pointer (some ⟨w.heap.size,0,none⟩),.agg #[.int .u32 u,.int .u16 s]] y.val fun e w'=>e=.returned (.int .u32 gwv)/\Below y.val.heap.size y.val w' from fun y=>by
          rw [hgwv];exact Zh0 (u,s) ⟨z2,z3,z4,z5⟩ (HGq.out.below y.property))
         have Hgwv:=Ya hgwv;obtain ⟨_,_,_,_,_,_,e0,e1,e2,e3,e4⟩:=HKq.out.cells;have hbl:=HKq.out.blt;have p1:IntKind.i64.wrap (v+1)=v+1:=Y6 _ ⟨by omega,by omega⟩;have p2:IntKind.i64.wrap (v+1+q)=v+1+q:=Y6 _ ⟨by omega,by omega⟩;subst hAw hAa2;clear hcw hx hqw hbw d0 d2 d3 hal Hv' hgwv;go_upto_region 21 with fail
         refine Zi 21 (by kernel_rfl) (by kernel_rfl) ?_;have hE:=Ze wr;simp only [Y7,Yam,Yab,Yas]
         repeat (first | go_big_quiet_step ((go_at_call 31;exact Zas (Hgw.out _))))
         refine wpQuiet_nil ?_;rintro w6 ⟨⟨_,hb6⟩,rfl⟩;have HK6:=Ya (HKq.out.below hb6);have HG6:=Ya (HGq.out.below hb6);have HW6:=Ya (HWq.out.pass (.of_below (F:=F) hb6));have HO6:=Ya (HOq.out.trans (Only.of_below (F:=F) hb6) fun _ _ q=>q);have HX6:=Ya ((hb6.block xb hxq).trans HXq.out);clear hE hb6 HKq HGq HWq HOq HXq e0 e1 e2 e3 e4 hbl Hgw;go_wp2_with fail
         refine (Zd9 (v+1+q) gwv HK6.out ⟨by omega,by omega⟩).mono ?_;rintro e w7 ⟨rv2,rfl,hk7,ho7⟩;have hx6:xb<w6.heap.size:=(Yh.1 HX6.out).1;have HX7:=Ya ((ho7.block xb hx6 hxF).trans HX6.out);have HG7:=Ya (HG6.out.pass (.of_only ho7));have HW7:=Ya (HW6.out.pass (.of_only ho7));have HO7:=Ya (HO6.out.trans ho7 fun _ _ q=>q);have HK7:Hid (KAt w7 lo b p F H half P (S.puts mi ((v,S.headW ty NW)::(Yz (q+1)).map fun k=>(v+1+(k:Nat),g.word (ws.getD k (0,0)))))):=Ya (by
          rw [Zmu];simp only;rw [Hwq.out,<- Hgwv.out];exact hk7)
         clear hk7 ho7 HK6 HG6 HW6 HO6 HX6 x1 z0 z1 d1 hva2 p1 p2;go_wp2_with fail
         go_roundw
         case rel=>exact ⟨q+1,by omega,by go_num,HK7,HO7,HG7,HW7,HX7⟩
         case measure=>simp [intOf];omega
        ·have hqe:q=NW:=by omega
         subst hqe;have HK8:Hid (KAt wr lo b p F H half P (S.puts m ((Yz (i+1)).flatMap (S.ab g)))):=Ya (by
          rw [Zmt,<- Hmi.out];have e:S.ab g i=(v,S.headW ty q)::(Yz q).map fun k=>(v+1+(k:Nat),g.word (ws.getD k (0,0))):=by
           unfold S.ab;rw [<- Hnd.out,<- Hv.out,HNW.out]
          rw [e];exact HKq.out)
         clear HKq;go_wp2_with fail
         go_roundw
         case rel=>exact ⟨i+1,by omega,by go_num,HK8,HOq,HGq⟩
         case measure=>simp [intOf];omega
      ·have hie:i=G:=by omega
       subst hie;obtain ⟨_,_,_,_,_,_,e0,e1,e2,e3,e4⟩:=HKi.out.cells;have hbl:=HKi.out.blt;obtain ⟨An3,cn3,Aa3,ca3,d0,d1,d2,d3⟩:=HGi.out.cells;have hgb:=HGi.out.out.1;rw [<- HG.out] at d0;have t1:t%4294967296=t:=by omega
       clear d1 d2 d3;go_wp2_with fail
       refine (Zge 26 t HKi.out ⟨by omega,by omega⟩).mono ?_;rintro e w9 ⟨rv,rfl,hk9,ho9⟩;have HK9:=Ya hk9;have HO9:=Ya (HOi.out.trans ho9 fun _ _ q=>q);have HG9:=Ya (HGi.out.pass (.of_only ho9));clear hk9 ho9 HKi HOi HGi e0 e1 e2 e3 e4 hbl d0 t1;go_wp2_with fail
       refine bodyPost_ret (v:=.pointer (some ⟨w.heap.size,0,none⟩)) (results_tmp Tryz.results11 _ _ _) rfl (.inr ⟨?_,w.heap.size,rfl,?_,?_,HO9.out⟩)
       ·have h1:=Hbig.out
        rw [Ht.out,HR27.out] at h1;rw [<- HA.out];exact h1
       ·rw [<- HA.out,Hgg.out]
        exact HG9.out
       ·rw [<- HA.out,Hgg.out,<- Ht.out]
        have e:S.aq g m=S.puts m ((Yz i).flatMap (S.ab g)):=by unfold S.aq;rw [<- HG.out]
        rw [e];exact HK9.out
  ·have hlt':(ns.take k).map S.ah=S.ac ns:=Zmv (by rw [<- HNl.out];exact hk) (.inr ⟨by rw [<- HNl.out];omega,hk30⟩)
   rw [hlt'] at HM Ht;clear hlt';have HGA:=Ya (Zt1 HM.out HB.out (Yf _) HKF.out (Zah _ _) (Zgt ns) (Zji ns) (fun x hx=>by
    obtain ⟨i,hi,e⟩:=Yaw hx;have hi':i<(S.ac ns).length:=by rw [Zah] at hi;exact hi
    have h:=Zcj (a:=a) hi';rw [Yd hi,e] at h
    cases h
    have h1:=Zbk ((S.ac ns).take i);have h2:=Zc1 (S.ac ns) i (S.ac ns).length (Ybi hi');rw [Yag] at h2;have h3:=Zbx ns;omega))
   have hsz:=Zbx ns;have htb:0<=t/\t<=300000400:=by rw [Ht.out];omega
   clear HM hsz;have HKr:=Ya (HK.out.below HB.out);obtain ⟨_,_,_,_,_,_,e0,e1,e2,e3,e4⟩:=HKr.out.cells;have hbl:=HKr.out.blt;obtain ⟨r27,hr27⟩:∃ r,r=m.rd 27:=⟨_,rfl⟩
   have HR27:=Ya hr27;have hr27b:0<=r27/\r27<=4294967295:=by rw [hr27];exact HKr.out.ok.word _
   have hreg:=Zfy 27 HKr.out;rw [Zck (by decide) (by decide),<- hr27] at hreg;have Hreg:=Ya hreg;have q1:r27%18446744073709551616=r27:=by omega
   clear hreg hr27;go_wp2_with fail
   refine Hreg.out.mono ?_;rintro e _ ⟨rfl,rfl⟩;clear Hreg;by_cases hbig:t>r27
   ·have d1:decide (t>r27)=true:=by simp [hbig]
    have Hbig:=Ya hbig;clear hbig;go_wp2_with fail
    refine bodyPost_ret (v:=.pointer none) (results_tmp Tryz.results11 _ _ _) rfl (.inl ⟨?_,rfl,HB.out⟩);have h1:=Hbig.out;rw [Ht.out,HR27.out] at h1;rw [<- HA.out];exact h1
   ·have d1:decide (t>r27)=false:=by simp;omega
    have Hbig:=Ya (show t<=r27 by omega);clear hbig;go_wp2_with fail
    generalize hgg:S.aj ns a=g at *;have hgns:g.ns=S.ac ns:=by rw [<- hgg];rfl
    have HGA':Hid (GAt wr F w.heap.size g):=Ya (by rw [<- hgg];exact HGA.out);have Hgg:=Ya hgg;have HGns:=Ya hgns;have HOn:=Ya (Only.of_below (F:=F) HB.out);have HK0:Hid (KAt wr lo b p F H half P (S.puts m ((Yz 0).flatMap (S.ab g)))):=Ya HKr.out;obtain ⟨G,hG⟩:=Yx g.ns.length;have HG:=Ya hG;have hG30:G<=30:=by rw [hG,hgns];exact Zgt ns
    clear hgg hgns HGA hG e0 e1 e2 e3 e4 hbl HKr q1;go_wp2_with fail
    go_loopw [9] (fun v9 wl=>∃ i:Nat,i<=G/\v9=.int .i64 i/\Hid (KAt wl lo b p F H half P (S.puts m ((Yz i).flatMap (S.ab g))))/\Hid (Only F w wl)/\Hid (GAt wl F w.heap.size g)) (fun v9 _=>G-(intOf v9).toNat)
    case atStart=>exact ⟨0,by omega,rfl,HK0,HOn,HGA'⟩
    case round =>
     clear HK0 HOn HGA' HB;obtain ⟨i,hi,rfl,HKi,HOi,HGi⟩:=hrel;have hzi:=HOi.out.size;by_cases hlg:i<G
     ·obtain ⟨An',cn',Aa',ca',d0,d1,d2,d3⟩:=HGi.out.cells
      have hgb:=HGi.out.out.1;have hil:i<g.ns.length:=by rw [<- HG.out];exact hlg
      obtain ⟨bn,on,hAn',hbn,hcn⟩:=d2 (by omega);obtain ⟨y0,y1,y2,Aw,cw,y3,y4,hww⟩:=hcn i (g.nd i) (Zdm HGo.out hil).1;have hal:g.at_.length=G:=by rw [HGi.out.len,<- HG.out]
      obtain ⟨ba,oa,hAa',hba,hva⟩:=Zkt d3 (show i<g.at_.length by rw [hal];exact hlg);have hwl:=HGo.out.short _ (Zdm HGo.out hil).2;obtain ⟨nd,hnd⟩:=Yx (g.nd i);have Hnd:=Ya hnd;rw [<- hnd] at y0 y1 y2 y3 y4 hww hwl;obtain ⟨ty,ws⟩:=nd;simp only at y0 y1 y2 y3 y4 hww hwl;obtain ⟨NW,hNW⟩:=Yx ws.length;have HNW:=Ya hNW;rw [<- hNW] at y2 y3 y4 hwl;obtain ⟨v,hv⟩:=Yx (g.at_.getD i 0);have Hv:Hid (v=g.adr i):=Ya hv;have hvb:0<=v/\v<=335544320:=by
       rw [hv,Yk,Yd (by rw [hal];exact hlg)];exact HGi.out.rng _ (Yap _)
      rw [<- hv] at hva;rw [hal] at d1;rw [<- HG.out] at d0;have hbn1:=hbn.1;have HW:=Ya hww;subst hAn' hAa';clear hcn hnd hNW hv hww hbn d2 d3 hal hil;go_upto_region 17 with fail
      have Hb3:=Ya ((Yj wr.heap.size wr).alloc (Yf _) (.cells #[.int .u8 ty,.slice Aw NW cw] 42));have hr3:=heap_alloc_new wr (.cells #[.int .u8 ty,.slice Aw NW cw] 42);generalize wr.alloc (.cells #[.int .u8 ty,.slice Aw NW cw] 42)=w3 at *;have hz3:=Hb3.out.size;have HK3:=Ya (HKi.out.below Hb3.out);have HG3:=Ya (HGi.out.below Hb3.out);have HO3:=Ya (HOi.out.trans (Only.of_below (F:=F) Hb3.out) fun _ _ q=>q);have hlt3:wr.heap.size<w3.heap.size:=(Yh.1 hr3).1;have x0:w3.cell? ⟨wr.heap.size,0,none⟩=some (.int .u8 ty):=by rw [Yb hr3];rfl
      have x1:w3.cell? ⟨wr.heap.size,1,none⟩=some (.slice Aw NW cw):=by rw [Yb hr3];rfl
      have g1:w3.cell? ⟨w.heap.size,1,none⟩=some (.slice (some ⟨ba,oa,none⟩) G ca'):=(Hb3.out.cell (p:=⟨w.heap.size,1,none⟩) hgb).trans d1;have v3:w3.cell? ⟨ba,oa+i,none⟩=some (.int .i64 v):=(Hb3.out.cell (p:=⟨ba,oa+i,none⟩) hba).trans hva;have hgb3:w.heap.size<w3.heap.size:=by omega
      have hba3:ba<w3.heap.size:=by omega
      have HX3:=Ya hr3;obtain ⟨_,_,_,_,_,_,e0,e1,e2,e3,e4⟩:=HK3.out.cells;have hbl:=HK3.out.blt;have l6:bits .or .i64 (bits .or .i64 ((NW:Int)*32) (ty%8*4)) 3%4294967296=S.headW ty NW:=Zhl ty NW y1.1 (by omega);have hhd:0<=S.headW ty NW/\S.headW ty NW<=4294967295:=by unfold S.headW;omega
      have hxb:w.heap.size<=wr.heap.size:=hzi;clear d0 d1 y0 y3 hr3 hva HKi HGi HOi hgb hba hbn1;obtain ⟨xb,hxbe⟩:=Yx wr.heap.size;rw [<- hxbe] at HX3 x0 x1 hlt3 hxb ⊢;have hz3':xb<=w3.heap.size:=Ybi hlt3;clear hxbe;refine Zi 23 (by kernel_rfl) (by kernel_rfl) ?_;have hE:=Ze w3;simp only [Y7,Yam,Yab,Yas]
      repeat (first | go_big_quiet_step (fail))
      refine wpQuiet_nil ?_;rintro w4 ⟨⟨_,hb4⟩,rfl⟩;have HK4:=Ya (HK3.out.below hb4);have HG4:=Ya (HG3.out.below hb4);have HO4:=Ya (HO3.out.trans (Only.of_below (F:=F) hb4) fun _ _ q=>q);have HbW:=Ya (Hb3.out.trans (hb4.mono hz3));have HX4:=Ya ((hb4.block xb hlt3).trans HX3.out);clear hE hb4 HK3 HG3 HO3 HX3 e0 e1 e2 e3 e4 hbl x0 x1 g1 v3;go_wp2_with fail
      rw [l6];refine (Zd9 v (S.headW ty NW) HK4.out hhd).mono ?_;rintro e w5 ⟨rv,rfl,hk5,ho5⟩;have hxF:¬ F xb:=fun q=>by have:=HKF.out xb q;omega
      have hx4:xb<w4.heap.size:=(Yh.1 HX4.out).1;have HX5:=Ya ((ho5.block xb hx4 hxF).trans HX4.out);have HG5:=Ya (HG4.out.pass (.of_only ho5));have HO5:=Ya (HO4.out.trans ho5 fun _ _ q=>q);obtain ⟨mi,hmi⟩:=Yx (S.puts m ((Yz i).flatMap (S.ab g)));have Hmi:=Ya hmi;have HK5:Hid (KAt w5 lo b p F H half P (S.puts mi ((v,S.headW ty NW)::(Yz 0).map fun k=>(v+1+(k:Nat),g.word (ws.getD k (0,0)))))):=Ya (by rw [hmi];exact hk5);have HW5:Hid (WordsF w5 F Aw ws):=Ya ((HW.out.pass (.of_below (F:=F) HbW.out)).pass (.of_only ho5));clear hk5 ho5 HK4 HG4 HO4 HX4 l6 hhd hmi;go_wp2_with fail
      go_loopw [11] (fun v11 wl=>∃ q:Nat,q<=NW/\v11=.int .i64 q/\Hid (KAt wl lo b p F H half P (S.puts mi ((v,S.headW ty NW)::(Yz q).map fun k=>(v+1+(k:Nat),g.word (ws.getD k (0,0))))))/\Hid (Only F w wl)/\Hid (GAt wl F w.heap.size g)/\Hid (WordsF wl F Aw ws)/\Hid (wl.heap[xb]?=some (.cells #[.int .u8 ty,.slice Aw NW cw] 42))) (fun v11 _=>NW-(intOf v11).toNat)
      case atStart=>exact ⟨0,by omega,rfl,HK5,HO5,HG5,HW5,HX5⟩
      case round =>
       clear HK5 HO5 HG5 HX5;obtain ⟨q,hq,rfl,HKq,HOq,HGq,HWq,HXq⟩:=hrel;have hxq:xb<wr.heap.size:=(Yh.1 HXq.out).1;have x1:wr.cell? ⟨xb,1,none⟩=some (.slice Aw NW cw):=by rw [Yb HXq.out];rfl
       by_cases hlq:q<NW
       ·have hqw:q<ws.length:=by rw [<- HNW.out];exact hlq
        obtain ⟨bw,ow,hAw,hbw,hcw⟩:=HWq.out (by omega);obtain ⟨z0,z1,z2,z3,z4,z5⟩:=hcw q ws[q] (Yd hqw);have hbw1:=hbw.1;have Hwq:=Ya (show ws.getD q (0,0)=ws[q] by rw [Yk,Yd hqw];rfl);obtain ⟨x,hx⟩:=Yx ws[q];rw [<- hx] at z0 z1 z2 z3 z4 z5 Hwq;obtain ⟨u,s⟩:=x;simp only at z0 z1 z2 z3 z4 z5;obtain ⟨An2,cn2,Aa2,ca2,d0,d1,d2,d3⟩:=HGq.out.cells;have hgb:=HGq.out.out.1;have hal:g.at_.length=G:=by rw [HGq.out.len,<- HG.out]
        obtain ⟨ba2,oa2,hAa2,hba2,hva2⟩:=Zkt d3 (show i<g.at_.length by rw [hal];exact hlg);rw [hal] at d1;have Hv':g.at_.getD i 0=v:=Hv.out.symm;rw [Hv'] at hva2;obtain ⟨gwv,hgwv⟩:=Yx (g.word (u,s));have hgf:=Zbw HGo.out (x:=(u,s)) ⟨z2,z3,z4⟩ (by rw [HGns.out];have:=Zbx ns;omega);rw [<- hgwv] at hgf;have Hgw:=Ya (show ∀ y:Ext wr,Calls Tryz.prog 31 #[.pointer (some ⟨w.heap.size,0,none⟩),.agg #[.int .u32 u,.int .u16 s]] y.val fun e w'=>e=.returned (.int .u32 gwv)/\Below y.val.heap.size y.val w' from fun y=>by
         rw [hgwv];exact Zh0 (u,s) ⟨z2,z3,z4,z5⟩ (HGq.out.below y.property))
        have Hgwv:=Ya hgwv;obtain ⟨_,_,_,_,_,_,e0,e1,e2,e3,e4⟩:=HKq.out.cells;have hbl:=HKq.out.blt;have p1:IntKind.i64.wrap (v+1)=v+1:=Y6 _ ⟨by omega,by omega⟩;have p2:IntKind.i64.wrap (v+1+q)=v+1+q:=Y6 _ ⟨by omega,by omega⟩;subst hAw hAa2;clear hcw hx hqw hbw d0 d2 d3 hal Hv' hgwv;go_upto_region 21 with fail
        refine Zi 21 (by kernel_rfl) (by kernel_rfl) ?_;have hE:=Ze wr;simp only [Y7,Yam,Yab,Yas]
        repeat (first | go_big_quiet_step ((go_at_call 31;exact Zas (Hgw.out _))))
        refine wpQuiet_nil ?_;rintro w6 ⟨⟨_,hb6⟩,rfl⟩;have HK6:=Ya (HKq.out.below hb6);have HG6:=Ya (HGq.out.below hb6);have HW6:=Ya (HWq.out.pass (.of_below (F:=F) hb6));have HO6:=Ya (HOq.out.trans (Only.of_below (F:=F) hb6) fun _ _ q=>q);have HX6:=Ya ((hb6.block xb hxq).trans HXq.out);clear hE hb6 HKq HGq HWq HOq HXq e0 e1 e2 e3 e4 hbl Hgw;go_wp2_with fail
        refine (Zd9 (v+1+q) gwv HK6.out ⟨by omega,by omega⟩).mono ?_;rintro e w7 ⟨rv2,rfl,hk7,ho7⟩;have hx6:xb<w6.heap.size:=(Yh.1 HX6.out).1;have HX7:=Ya ((ho7.block xb hx6 hxF).trans HX6.out);have HG7:=Ya (HG6.out.pass (.of_only ho7));have HW7:=Ya (HW6.out.pass (.of_only ho7));have HO7:=Ya (HO6.out.trans ho7 fun _ _ q=>q);have HK7:Hid (KAt w7 lo b p F H half P (S.puts mi ((v,S.headW ty NW)::(Yz (q+1)).map fun k=>(v+1+(k:Nat),g.word (ws.getD k (0,0)))))):=Ya (by
         rw [Zmu];simp only;rw [Hwq.out,<- Hgwv.out];exact hk7)
        clear hk7 ho7 HK6 HG6 HW6 HO6 HX6 x1 z0 z1 d1 hva2 p1 p2;go_wp2_with fail
        go_roundw
        case rel=>exact ⟨q+1,by omega,by go_num,HK7,HO7,HG7,HW7,HX7⟩
        case measure=>simp [intOf];omega
       ·have hqe:q=NW:=by omega
        subst hqe;have HK8:Hid (KAt wr lo b p F H half P (S.puts m ((Yz (i+1)).flatMap (S.ab g)))):=Ya (by
         rw [Zmt,<- Hmi.out];have e:S.ab g i=(v,S.headW ty q)::(Yz q).map fun k=>(v+1+(k:Nat),g.word (ws.getD k (0,0))):=by
          unfold S.ab;rw [<- Hnd.out,<- Hv.out,HNW.out]
         rw [e];exact HKq.out)
        clear HKq;go_wp2_with fail
        go_roundw
        case rel=>exact ⟨i+1,by omega,by go_num,HK8,HOq,HGq⟩
        case measure=>simp [intOf];omega
     ·have hie:i=G:=by omega
      subst hie;obtain ⟨_,_,_,_,_,_,e0,e1,e2,e3,e4⟩:=HKi.out.cells;have hbl:=HKi.out.blt;obtain ⟨An3,cn3,Aa3,ca3,d0,d1,d2,d3⟩:=HGi.out.cells;have hgb:=HGi.out.out.1;rw [<- HG.out] at d0;have t1:t%4294967296=t:=by omega
      clear d1 d2 d3;go_wp2_with fail
      refine (Zge 26 t HKi.out ⟨by omega,by omega⟩).mono ?_;rintro e w9 ⟨rv,rfl,hk9,ho9⟩;have HK9:=Ya hk9;have HO9:=Ya (HOi.out.trans ho9 fun _ _ q=>q);have HG9:=Ya (HGi.out.pass (.of_only ho9));clear hk9 ho9 HKi HOi HGi e0 e1 e2 e3 e4 hbl d0 t1;go_wp2_with fail
      refine bodyPost_ret (v:=.pointer (some ⟨w.heap.size,0,none⟩)) (results_tmp Tryz.results11 _ _ _) rfl (.inr ⟨?_,w.heap.size,rfl,?_,?_,HO9.out⟩)
      ·have h1:=Hbig.out
       rw [Ht.out,HR27.out] at h1;rw [<- HA.out];exact h1
      ·rw [<- HA.out,Hgg.out]
       exact HG9.out
      ·rw [<- HA.out,Hgg.out,<- Ht.out]
       have e:S.aq g m=S.puts m ((Yz i).flatMap (S.ab g)):=by unfold S.aq;rw [<- HG.out]
       rw [e];exact HK9.out
end
end Go.Proofs.YtdeepoikgfaecaaGreatDoor
