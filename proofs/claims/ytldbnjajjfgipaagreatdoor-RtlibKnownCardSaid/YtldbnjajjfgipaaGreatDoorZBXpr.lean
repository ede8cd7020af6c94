/- Parts. -/
import Derived.Test.YtldbnjajjfgipaaGreatDoorZAsmQ
import Derived.Test.YtldbnjajjfgipaaGreatDoorZBCos
set_option linter.all false
set_option maxHeartbeats 4000000
open Go.Lib renaming hid->Ya,cell_of_heap->Yb,frozen_of_heap->Yai
open List renaming length_append->Yc,getElem?_eq_getElem->Ye,length_cons->Yk,append_assoc->Yo,mem_of_getElem?->Y2,cons_append->Yab,length_nil->Yae,mem_map->Yby,getElem_of_mem->Yb4
open Nat renaming le_refl->Yd,le_trans->Yaa,le_of_lt->Yay
open Go.AllReady renaming cons->Yf,nil->Yi
open Bool renaming and_eq_true->Yq
open Go.World renaming ownsRow_nil->Yak
namespace Go.Proofs.YtldbnjajjfgipaaGreatDoor
open S Go.Proofs.Tryz Go.RowKit
set_option maxRecDepth 100000
theorem Zgt {xs:List S.Item}{base:Int}{F:List Int}(h:FormsRes xs base 0 F)(c:∀x∈xs,0<=x.word/\x.word<=4294967295):(outTo xs F base xs.length).length<=67108864:=by
 rcases h with⟨h,_⟩|⟨_,h,_⟩|⟨a,_,b,h4,d⟩
 .exact absurd rfl h
 .omega
 .have h6:=Zao (base:=base) b.1 (Zcs (Zhh a)) c xs.length
  have h7:0<=base:=by
   rcases a with⟨_,h⟩|⟨h,_⟩|⟨h,_⟩|⟨h,_⟩|⟨h,_⟩
   .omega
   all_goals exact h
  have h8:addr xs F base xs.length<=67108864:=d;omega
theorem Zk2 {w:World}{B:Nat}{A:Option Addr}{os:List S.Obj}(hi:Objs w B A os):∀x∈joined os,0<=x.word/\x.word<=4294967295:=by
 intro x a;obtain⟨o,e,a⟩:=List.mem_flatMap.1 a;obtain⟨y,f,rfl⟩:=Yby.1 a;obtain⟨k,c,rfl⟩:=Yb4 e;obtain⟨b,off,o',_,_,d,_,⟨A',c',_,g⟩,_,_⟩:=hi.at_ c;rw[Ye c] at d
 cases d
 exact g.words y f
theorem Zjs {os:List S.Obj}(a:∀(k:Nat)(o:S.Obj),os[k]?=some o->∀x∈o.items,o.name.size+x.label.size<=9223372036854775807):∀x∈joined os,x.label.size<=maxLen:=by
 intro x b;obtain⟨o,d,b⟩:=List.mem_flatMap.1 b;obtain⟨y,e,rfl⟩:=Yby.1 b;obtain⟨k,c,rfl⟩:=Yb4 d;have h1:=a k _ (Ye c) y e;have h2:=Zph os[k].name y.label
 show(owned os[k].name y.label).size<=maxLen
 unfold maxLen;omega
def Zgu (os:List S.Obj)(base r:Int)(L:List Int)(P:List (ByteArray×Int)):Prop :=
 (r≠0/\NamesRes os r/\L=[]/\P=[]) \/
 (NamesRes os 0/\∃F,FormsRes (joined os) base r F/\L=(if r=0 then outTo (joined os) F base (joined os).length else [])/\P=(if r=0 then placesTo (joined os) F base (joined os).length else []))
def Z0f (os:List S.Obj)(base:Int)(w:World)(e:Ending)(w':World):Prop :=
 ∃vo vp r L P,e=.returned (.tuple #[.agg #[vo,vp],.int .i64 r])/\Zgu os base r L P /\
  w'.ownsRow w.heap.size 31 1 vo L.length (L.map (Value.int .u32))/\w'.ownsRow w.heap.size 166 2 vp P.length (P.flatMap Z5)/\Below w.heap.size w w'
theorem Zrd (A:Option Addr)(c:Nat)(os:List S.Obj)(base:Int)(w:World)(hi:Objs w w.heap.size A os)(W:os.length<=1048576)(X:(joined os).length<=1048576)
 (J:∀(k:Nat)(o:S.Obj),os[k]?=some o->∀x∈o.items,o.name.size+x.label.size<=9223372036854775807) :
 Calls prog 54 #[.slice A os.length c,.int .i64 base] w (Z0f os base w):=by
 have G:=Ya J;clear J;go_enter func54,ntmps54
 go_wp2_with fail
 refine(Zlk _ _ _ _ ((hi.below ((Below.refl _ _).alloc (Yd _) _)).more (by simp)) W).mono ?_;rintro e w1 ⟨Q,rfl,I,m⟩;have z:=Ya I;clear I;obtain⟨u,a3⟩:=Zhf m;have P:=m.size;simp at P;have H:w.heap.size<w1.heap.size:=by omega
 have q:=Below.trans ((Below.refl w.heap.size w).alloc (Yd _) _) (m.mono (by simp));have i:=Ya q;clear q m;by_cases l:Q=0
 .subst l
  go_wp2_with fail
  refine(Znc _ _ _ _ ((hi.below i.out).more (by omega)) W X G.out).mono ?_;rintro e T ⟨v2,rfl,C,d⟩;obtain⟨A2,c2,rfl⟩:=Za C;have y:∀x∈joined os,0<=x.word/\x.word<=4294967295:=Zk2 hi;have L:∀(k:Nat)(x:S.Item),(joined os)[k]?=some x->x.label.size<=maxLen:=λ k x hx=>Zjs G.out x (Y2 hx)
  have a2:=d.size;have g:=i.out.trans (d.mono (by omega));have Y:=Ya g;go_wp2_with fail
  refine(Zkx _ _ _ _ _ (Items.of_own C y) X L).mono ?_;rintro e Z ⟨vo,vp,r,F,rfl,j,O,hp,f⟩;have a1:=f.size;have s:=g.trans (f.mono (by omega));have t:=Ya s;obtain⟨Ao,co,rfl⟩:=Za O;obtain⟨Ap,cp,rfl⟩:=Za hp;have n:=Ya j;have b:w.heap.size<T.heap.size:=by omega
  have Ho:=Ya O;have Hp:=Ya hp;have M:∀o,Z.cell? ⟨w.heap.size,o,none⟩=w1.cell? ⟨w.heap.size,o,none⟩:=λ o =>
   (f.cell (p:=⟨w.heap.size,o,none⟩) (show w.heap.size<T.heap.size by omega)).trans (d.cell (p:=⟨w.heap.size,o,none⟩) H)
  have a0:∀o,Z.frozen? ⟨w.heap.size,o,none⟩=w1.frozen? ⟨w.heap.size,o,none⟩:=λ o =>
   (f.frozen (p:=⟨w.heap.size,o,none⟩) (show w.heap.size<T.heap.size by omega)).trans (d.frozen (p:=⟨w.heap.size,o,none⟩) H)
  have K:r=0->(outTo (joined os) F base (joined os).length).length<=67108864:=λ h=>by
   subst h;exact Zgt j y
  have R:=Ya K;clear C y L d g j O hp f s K;by_cases l:r=0
  .subst l
   have V:=R.out rfl;have D:=Ho.out;have B:=Hp.out;simp only[if_true] at D B;have U:=Ya D;have N:=Ya B;clear D B;simp only[if_true];go_wp2_with fail
   refine bodyPost_ret (v:=.tuple #[.agg #[.slice Ao (outTo (joined os) F base (joined os).length).length co,.slice Ap (placesTo (joined os) F base (joined os).length).length cp],.int .i64 0]) (by simp[results,results54,go_sem,u,M,H]) rfl ⟨_,_,0,_,_,rfl,.inr ⟨z.out,F,n.out,rfl,rfl⟩,?_,?_,?_⟩
   .exact Zn (ownsRow_setCell_below (ownsRow_setCell_below U.out (a:=⟨w.heap.size,0,none⟩) b _) (a:=⟨w.heap.size,1,none⟩) b _) (Yay b)
   .exact Zn (ownsRow_setCell_below (ownsRow_setCell_below N.out (a:=⟨w.heap.size,0,none⟩) b _) (a:=⟨w.heap.size,1,none⟩) b _) (Yay b)
   .exact(t.out.setCell (p:=⟨w.heap.size,0,none⟩) (Yd _) _).setCell (p:=⟨w.heap.size,1,none⟩) (Yd _) _
  .have hd:=Zbm l
   have E:=Ya l;clear l;rw[if_neg E.out,if_neg E.out];go_wp2_with fail
   refine bodyPost_ret (v:=.tuple #[.agg #[.slice none 0 0,.slice none 0 0],.int .i64 r]) (by simp[results,results54,go_sem,u,M,H]) rfl ⟨_,_,r,[],[],rfl,.inr ⟨z.out,F,n.out,by rw[if_neg E.out],by rw[if_neg E.out]⟩,Yak _ _ _ _,Yak _ _ _ _,?_⟩;exact(t.out.setCell (p:=⟨w.heap.size,0,none⟩) (Yd _) _).setCell (p:=⟨w.heap.size,1,none⟩) (Yd _) _
 .have hd:=Zbm l
  have E:=Ya l;clear l;go_wp2_with fail
  refine bodyPost_ret (v:=.tuple #[.agg #[.slice none 0 0,.slice none 0 0],.int .i64 Q]) (by simp[results,results54,go_sem,u,H]) rfl ⟨_,_,Q,[],[],rfl,.inl ⟨E.out,z.out,rfl,rfl⟩,Yak _ _ _ _,Yak _ _ _ _,?_⟩;exact(i.out.setCell (p:=⟨w.heap.size,0,none⟩) (Yd _) _).setCell (p:=⟨w.heap.size,1,none⟩) (Yd _) _
theorem Zcn (fr L:Int):∀k,(bStores fr L k).length=k
 | 0=>rfl
 | k+1=>by rw[bStores,Yc,Zcn fr L k];rfl
theorem Ze8 (fr L:Int):∀k,(bLoads fr L k).length=k
 | 0=>rfl
 | k+1=>by rw[bLoads,Yc,Ze8 fr L k];rfl
theorem Zc2 (at_:Nat):∀k,(bArgs at_ k).length=k
 | 0=>rfl
 | k+1=>by rw[bArgs,Yc,Zc2 at_ k];rfl
theorem Z0g {base p:Nat}{h:CH}{xs:List S.Item}{lab:Int}{w:World}(H:CAt base p h xs lab w)(a5:base<=w.heap.size)(t:HOk h)(op n:Int)(nm:ByteArray)(A:Option Addr)(N c at_:Nat)(hN:N<=1000000)(a8:at_<=1000000)
 (hl:xs.length+(bCall h.fr h.r.locals nm N at_).length<=100000000) :
 Calls prog 283 #[.pointer (some ⟨p,0,none⟩),.agg #[.int .i64 op,.int .i64 n,.string nm,.slice A N c],.int .i64 (at_:Int)] w (Zfy base p h xs (bCall h.fr h.r.locals nm N at_) lab w):=by
 have u:Below w.heap.size w (w.alloc (.cells #[.int .i64 op,.int .i64 n,.string nm,.slice A N c] 152)):=(Below.refl _ _).alloc (Yd _) _;have O:=heap_alloc_new w (.cells #[.int .i64 op,.int .i64 n,.string nm,.slice A N c] 152);have a7:w.heap.size<(w.alloc (.cells #[.int .i64 op,.int .i64 n,.string nm,.slice A N c] 152)).heap.size:=by simp
 have G:=Ya (CK.of u a5);have H2:=H.keep u;obtain⟨ys,g⟩:=Yx (bCall h.fr h.r.locals nm N at_);rw[<- g] at hl⊢;unfold bCall at g;have l:ys.length=at_+N+1+at_+1:=by
  rw[g];simp only[Yc,Zcn,Ze8,Zc2,Yk,Yae]
 rw[l] at hl;have Z:=Ya g;have a6:=t.l0;have a3:=t.l1;have HO:=Ya t;have f:=Ya (λ(D:List S.Item) (W:World) (R:CAt base p h D lab W) (k:Nat) (hk:k<=1000000)=>Zx5 R t k hk);have T:=Ya (λ(D:List S.Item) (W:World) (R:CAt base p h D lab W) (hb:base<=W.heap.size) (hz:D.length<=100000000) (d z:Int) (B:-1000000000<=z/\z<=1000000000)=>Zq6 R hb hz t d z B);have V:=Ya (λ(D:List S.Item) (W:World) (R:CAt base p h D lab W) (hb:base<=W.heap.size) (hz:D.length<=100000000) (d z:Int) (B:-1000000000<=z/\z<=1000000000)=>Zq5 R hb hz t d z B);obtain⟨L,hL⟩:=Yx h.r.locals;rw[<- hL] at a6 a3 Z f;have HL:=Ya hL;clear g H t hL l;go_enter func283,ntmps283
 go_upto_region 1 with fail
 have a1:=Ya O;have a4:=Ya H2;clear u O H2;generalize w.alloc (.cells #[.int .i64 op,.int .i64 n,.string nm,.slice A N c] 152)=w2 at *;go_wp2_with fail
 go_loopw [10] (λ F wr=>∃k:Nat,k<=at_/\F=.int .i64 k/\Hid (CAt base p h (xs++bStores h.fr L k) lab wr)/\Hid (CK base w2 wr)) (λ F _=>at_-(intOf F).toNat)
 case atStart=>exact⟨0,by omega,rfl,Ya (by simpa[bStores] using a4.out),Ya (CK.refl _ _)⟩
 case round =>
  obtain⟨k,hk,rfl,HC,K⟩:=hrel;obtain⟨wo,a0⟩:=Yx wr;subst a0;by_cases P:k<at_
  .have a:=Ya (f.out _ _ HC.out k (by omega))
   have C:=Ya (T.out _ _ HC.out (by have:=K.out.size;have:=G.out.size;omega) (by rw[Yc,Zcn];omega) (11+(k:Int)) (1+L+(k:Int)) (by omega));go_wp2_with fail
   refine a.out.mono ?_;rintro e w3 ⟨rfl,rfl⟩;go_wp2_with fail
   refine C.out.mono ?_;rintro e w4 ⟨rfl,x,q⟩;go_wp2_with fail
   go_roundw
   case rel=>exact⟨k+1,by omega,by go_num,Ya (by rw[bStores,<- Yo];exact x),Ya (K.out.trans q)⟩
   case measure=>simp[intOf];omega
  .have hkN:at_=k:=by omega
   subst hkN;have m:=Ya (K.out.keep w.heap.size _ _ _ a1.out (by decide) (by decide));have q3:wo.cell? ⟨w.heap.size,3,none⟩=some (.slice A N c):=by rw[Yb m.out];rfl
   go_wp2_with fail
   have b:=Ya (Zcn h.fr L at_);generalize bStores h.fr L at_=st at *;go_loopw [24] (λ o wr=>∃k:Nat,k<=N/\o=.int .i64 k/\Hid (CAt base p h (xs++st++bArgs at_ k) lab wr)/\Hid (CK base wo wr)) (λ o _=>N-(intOf o).toNat)
   case atStart=>exact⟨0,by omega,rfl,Ya (by simpa[bArgs] using HC.out),Ya (CK.refl _ _)⟩
   case round =>
    obtain⟨k,hk,rfl,Q,i⟩:=hrel;obtain⟨U,M⟩:=Yx wr;subst M;have I:base<=U.heap.size:=by have:=i.out.size;have:=K.out.size;have:=G.out.size;omega
    by_cases P:k<N
    .have a:=Ya (Zkz Q.out I (by rw[Yc,Yc,Zc2,b.out];omega) (4+(k:Int)) (11+(at_:Int)+(k:Int)))
     go_wp2_with fail
     refine a.out.mono ?_;rintro e w4 ⟨rfl,x,q⟩;go_wp2_with fail
     go_roundw
     case rel=>exact⟨k+1,by omega,by go_num,Ya (by rw[bArgs,<- Yo];exact x),Ya (i.out.trans q)⟩
     case measure=>simp[intOf];omega
    .have hkN:N=k:=by omega
     subst hkN;have y:=Ya (i.out.keep w.heap.size _ _ _ m.out (by decide) (by decide));have q2:U.cell? ⟨w.heap.size,2,none⟩=some (.string nm):=by rw[Yb y.out];rfl
     have Hj:=Ya (Zn2 Q.out I (by rw[Yc,Yc,Zc2,b.out];omega) 31 nm);go_wp2_with fail
     refine Hj.out.mono ?_;rintro e w5 ⟨rfl,h5,h6⟩;go_wp2_with fail
     have J:=Ya (Zc2 at_ N);generalize bArgs at_ N=ar at *;go_loopw [41] (λ v wr=>∃k:Nat,k<=at_/\v=.int .i64 k/\Hid (CAt base p h (xs++st++ar++[bJ 31 nm]++bLoads h.fr L k) lab wr)/\Hid (CK base w5 wr)) (λ v _=>at_-(intOf v).toNat)
     case atStart=>exact⟨0,by omega,rfl,Ya (by simpa[bLoads] using h5),Ya (CK.refl _ _)⟩
     case round =>
      obtain⟨k,hk,rfl,E,s⟩:=hrel;obtain⟨a2,X⟩:=Yx wr;subst X;have Y:base<=a2.heap.size:=by have:=s.out.size;have:=h6.size;omega
      have j:(xs++st++ar++[bJ 31 nm]++bLoads h.fr L k).length=xs.length+at_+N+1+k:=by simp only[Yc,J.out,b.out,Ze8,Yk,Yae]
      by_cases P:k<at_
      .have a:=Ya (f.out _ _ E.out k (by omega))
       have C:=Ya (V.out _ _ E.out Y (by rw[j];omega) (11+(k:Int)) (1+L+(k:Int)) (by omega));clear j;go_wp2_with fail
       refine a.out.mono ?_;rintro e w3 ⟨rfl,rfl⟩;go_wp2_with fail
       refine C.out.mono ?_;rintro e w4 ⟨rfl,x,q⟩;go_wp2_with fail
       go_roundw
       case rel=>exact⟨k+1,by omega,by go_num,Ya (by rw[bLoads,<- Yo];exact x),Ya (s.out.trans q)⟩
       case measure=>simp[intOf];omega
      .have hkN:at_=k:=by omega
       subst hkN;have a:=Ya (Zkz E.out Y (by rw[j];omega) (11+(at_:Int)) 4);clear j;go_wp2_with fail
       refine a.out.mono ?_;rintro e w4 ⟨rfl,x,q⟩;go_wp2_with fail
       go_end0
       refine⟨rfl,?_,G.out.trans (K.out.trans (i.out.trans (h6.trans (s.out.trans q))))⟩;rw[Z.out]
       simpa[Yo] using x
theorem Zec (fr L:Int)(e:BE):∀(l:List BE)(i:Nat),bExprs fr L (l++[e]) i=bExprs fr L l i++bExpr fr L e (i+l.length)
 | [],i=>by simp[bExprs]
 | x::r,i=>by
  rw[Yab,bExprs,bExprs,Zec fr L e r (i+1),Yo,Yk];have:i+1+r.length=i+(r.length+1):=by omega
  rw[this]
theorem Zej (fr L:Int)(m:List BE):∀(l:List BE)(i:Nat),bExprs fr L (l++m) i=bExprs fr L l i++bExprs fr L m (i+l.length)
 | [],i=>by simp[bExprs]
 | x::r,i=>by
  rw[Yab,bExprs,bExprs,Zej fr L m r (i+1),Yo,Yk];have:i+1+r.length=i+(r.length+1):=by omega
  rw[this]
theorem Zgv (fr L:Int)(l:List BE)(i k:Nat):(bExprs fr L (l.take k) i).length<=(bExprs fr L l i).length:=by
 have:=Zej fr L (l.drop k) (l.take k) i;rw[List.take_append_drop] at this;rw[this,Yc];omega
theorem Zu8 (fr L:Int)(e:BE)(at_:Nat):bExpr fr L e at_=bExprs fr L e.kids at_++bOp fr L e.op e.n e.name e.kids.length at_:=by
 obtain⟨op,n,nm,kids⟩:=e;rw[bExpr];rfl
theorem Zc3 (L:Int):∀{l:List BE},formedEs L l=true->∀e∈l,formedE L e=true
 | x::r,h,e,a=>by
  rw[formedEs,Yq] at h;rcases List.mem_cons.1 a with rfl|a
  .exact h.1
  .exact Zc3 L h.2 e a
theorem Zjt {L:Int}{e:BE}(h:formedE L e=true):headE L e.op e.n e.name e.kids.length=true/\formedEs L e.kids=true:=by
 obtain⟨op,n,nm,kids⟩:=e;rw[formedE,Yq] at h;exact h
theorem Zmt:∀{l:List BE} {k:Nat} {e:BE},l[k]?=some e->k+szE e<=Zdy l
 | [],k,e,h=>by simp at h
 | x::r,0,e,h=>by
  simp only[List.getElem?_cons_zero,Option.some.injEq] at h;subst h;rw[Zdy];omega
 | x::r,k+1,e,h=>by
  have h1:=Zmt (l:=r) (k:=k) (e:=e) (by simpa using h);have:=Zco x;rw[Zdy];omega
theorem Zmu {L op n:Int}{nm:ByteArray}{N:Nat}(h:headE L op n nm N=true):(1<=op/\op<=10)/\(op=1->-2147483648<=n/\n<=4294967295)/\(op=2->0<=n/\n<L)/\N=kidsE op N:=by
 unfold headE at h;simp only[Yq,decide_eq_true_eq] at h;obtain⟨⟨⟨⟨b,a⟩,c⟩,_⟩,_⟩:=h;refine⟨b,λ e=>?_,λ e=>?_,c⟩
 .subst e;unfold numE at a;rw[if_pos rfl] at a;have:=of_decide_eq_true a;omega
 .subst e;unfold numE at a;rw[if_neg (by decide),if_pos rfl] at a;exact of_decide_eq_true a
theorem Zmv (n:Int)(hn:0<=n/\n<=1000000)(w:World):Calls prog 228 #[.int .i64 n] w λ e w'=>e=.returned (.int .i64 (1+n))/\w'=w:=by
 go_enter func228,ntmps228
 go_wp2_with fail
 go_ret
 exact⟨rfl,rfl⟩
def Exp (base p:Nat)(h:CH)(n:Nat):Prop:=∀(e:BE)(A:Option Addr)(c at_:Nat)(xs:List S.Item)(lab:Int)(w:World),szE e<=n->formedE h.r.locals e=true->at_+szE e<=1000000->CAt base p h xs lab w->base<=w.heap.size->EList w base A e.kids->e.name.size<=maxLen ->
 xs.length+(bExpr h.fr h.r.locals e at_).length+10<=100000000 ->
 Calls prog 259 #[.pointer (some ⟨p,0,none⟩),.agg #[.int .i64 e.op,.int .i64 e.n,.string e.name,.slice A e.kids.length c],.int .i64 (at_:Int)] w (Zfy base p h xs (bExpr h.fr h.r.locals e at_) lab w)
theorem Zw9 {base p:Nat}{h:CH}(hO:HOk h):∀n,Exp base p h n:=by
 intro n
 induction n with
 | zero=>intro e A c at_ xs lab w hs;have:=Zco e;omega
 | succ n ih =>
  intro e A c at_ xs lab w hs hF e2 H d4 hA d8 hl;obtain⟨hh,a7⟩:=Zjt hF;have d2:=Zco e;have b2:=Zdg e.kids;rw[Zu8] at hl⊢;have d3:=Ya ih;have HA:=Ya hA;have Hh:=Ya hh;have a2:=Ya a7;have a4:=Ya (λ e' k (he:e.kids[k]?=some e')=>(show szE e'<=n/\at_+k+szE e'<=1000000 from by have:=Zmt he;omega));obtain⟨kids,J⟩:∃k,k=e.kids:=⟨_,rfl⟩
  obtain⟨N,hN⟩:=Yx kids.length;rw[<- J] at HA Hh a2 a4 hl d2 b2⊢;rw[<- hN] at Hh hl b2⊢;have HN:=Ya hN;generalize e.op=op at *;generalize e.n=en at *;generalize e.name=nm at *;clear J hN ih hA hF hh a7;have a3:Below w.heap.size w (w.alloc (.cells #[.int .i64 op,.int .i64 en,.string nm,.slice A N c] 152)):=(Below.refl _ _).alloc (Yd _) _;have b3:=heap_alloc_new w (.cells #[.int .i64 op,.int .i64 en,.string nm,.slice A N c] 152);have j:=Ya (CK.of a3 d4);have H2:=Ya (H.keep a3);have b0:=Ya b3;clear H a3 b3;go_enter func259,ntmps259
  go_upto_region 1 with fail
  generalize w.alloc (.cells #[.int .i64 op,.int .i64 en,.string nm,.slice A N c] 152)=w2 at *;have q3:w2.cell? ⟨w.heap.size,3,none⟩=some (.slice A N c):=by rw[Yb b0.out];rfl
  go_wp2_with fail
  obtain⟨b7,Y⟩:∃o,o=bOp h.fr h.r.locals op en nm N at_:=⟨_,rfl⟩
  rw[<- Y] at hl⊢;have c7:=Ya Y;clear Y;rw[Yc] at hl;have b5:=Ya (λ k=>Zgv h.fr h.r.locals kids at_ k);go_loopw [14] (λ a1 wr=>∃k:Nat,k<=N/\a1=.int .i64 k/\Hid (CAt base p h (xs++bExprs h.fr h.r.locals (kids.take k) at_) lab wr)/\Hid (CK base w2 wr)) (λ a1 _=>N-(intOf a1).toNat)
  case atStart=>exact⟨0,by omega,rfl,Ya (by simpa[bExprs] using H2.out),Ya (CK.refl _ _)⟩
  case round =>
   obtain⟨k,hk,rfl,I,F⟩:=hrel;obtain⟨z,c4⟩:=Yx wr;subst c4;have g:base<=z.heap.size:=by have:=F.out.size;have:=j.out.size;omega
   by_cases G:k<N
   .obtain⟨t,he1⟩:∃t,kids[k]?=some t:=⟨_,Ye (by rw[<- HN.out];exact G)⟩
    obtain⟨b,off,A',c',rfl,d9,q0,q1,q2,d7,q4,q5,q6⟩:=(HA.out.below (j.out.trans F.out).below).at_ he1;have X:=Y2 he1;obtain⟨b6,c9⟩:=a4.out t k he1;have b1:(kids.take k).length=k:=by have:=HN.out;rw[List.length_take];omega
    have a6:bExprs h.fr h.r.locals (kids.take (k+1)) at_=bExprs h.fr h.r.locals (kids.take k) at_++bExpr h.fr h.r.locals t (at_+k):=by rw[Zcl kids he1,Zec,b1]
    have W:=b5.out (k+1);rw[a6,Yc] at W;have e3:b<z.heap.size:=by omega
    have L:Below z.heap.size z (z.alloc (.cells #[.int .i64 t.op,.int .i64 t.n,.string t.name,.slice A' t.kids.length c'] 152)):=(Below.refl _ _).alloc (Yd _) _;have Q:=d3.out t A' c' (at_+k) (xs++bExprs h.fr h.r.locals (kids.take k) at_) lab (z.alloc (.cells #[.int .i64 t.op,.int .i64 t.n,.string t.name,.slice A' t.kids.length c'] 152)) b6 (Zc3 _ a2.out t X) (by omega) (I.out.keep L) (Yaa g L.size) (q6.below (L.mono g)) q4 (by rw[Yc];omega);have d1:=Ya a6;have b9:=Ya (CK.of L g);clear a6 W L b1;generalize bExpr h.fr h.r.locals t (at_+k)=zs at *;generalize t.op=op' at *;generalize t.n=en' at *;generalize t.name=nm' at *;generalize t.kids.length=N' at *;rw[show((at_+k:Nat):Int)=(at_:Int)+(k:Int) from by omega] at Q;have a8:=Ya Q;clear Q q4 q5 q6 he1 X b6 c9;go_wp2_with fail
    refine a8.out.mono ?_;rintro e U ⟨rfl,y,q⟩;go_wp2_with fail
    go_roundw
    case rel=>exact⟨k+1,by omega,by go_num,Ya (by rw[d1.out,<- Yo];exact y),Ya (F.out.trans (b9.out.trans q))⟩
    case measure=>simp[intOf];omega
   .have hkN:N=k:=by omega
    subst hkN;have m:=Ya (F.out.keep w.heap.size _ _ _ b0.out (by decide) (by decide));have c0:z.cell? ⟨w.heap.size,0,none⟩=some (.int .i64 op):=by rw[Yb m.out];rfl
    have c1:z.cell? ⟨w.heap.size,1,none⟩=some (.int .i64 en):=by rw[Yb m.out];rfl
    have c2:z.cell? ⟨w.heap.size,2,none⟩=some (.string nm):=by rw[Yb m.out];rfl
    have c3:z.cell? ⟨w.heap.size,3,none⟩=some (.slice A N c):=by rw[Yb m.out];rfl
    have ht:kids.take N=kids:=by rw[HN.out,List.take_length]
    rw[ht] at I;clear ht q3;generalize bExprs h.fr h.r.locals kids at_=ks at *;obtain⟨⟨o1,o2⟩,f,d,-⟩:=Zmu Hh.out;have l:(xs++ks).length=xs.length+ks.length:=Yc;clear Hh HA a2 a4 b5;rcases(show op=1\/op=2\/op=3\/op=4\/op=5\/op=6\/op=7\/op=8\/op=9\/op=10 by omega) with rfl|rfl|rfl|rfl|rfl|rfl|rfl|rfl|rfl|rfl
    .have Hob:=Ya (show bOp h.fr h.r.locals 1 en nm N at_=bConst (11+(at_:Int)) en from rfl)
     have D:=Ya (Ziq I.out g (by rw[l];omega) (11+(at_:Int)) en (by have:=f rfl;omega));clear f d;go_wp2_with fail
     refine D.out.mono ?_;rintro e U ⟨rfl,y,q⟩;go_wp2_with fail
     go_end0
     refine⟨rfl,?_,j.out.trans (F.out.trans q)⟩;rw[Hob.out,<- Yo];exact y
    .have Hob:=Ya (show bOp h.fr h.r.locals 2 en nm N at_=[bLoad h.fr (11+(at_:Int)) (1+en)] from rfl)
     have b8:=Ya (Zmv en (by have:=d rfl;have:=hO.l1;omega) z);have D:=Ya (Zq5 I.out g (by rw[l];omega) hO (11+(at_:Int)) (1+en) (by have:=d rfl;have:=hO.l1;omega));clear f d;go_wp2_with fail
     refine b8.out.mono ?_;rintro e w3 ⟨rfl,rfl⟩;go_wp2_with fail
     refine D.out.mono ?_;rintro e U ⟨rfl,y,q⟩;go_wp2_with fail
     go_end0
     refine⟨rfl,?_,j.out.trans (F.out.trans q)⟩;rw[Hob.out,<- Yo];exact y
    .have Hob:=Ya (show bOp h.fr h.r.locals 3 en nm N at_=[bMove (11+(at_:Int)) en] from rfl)
     have D:=Ya (Zkz I.out g (by rw[l];omega) (11+(at_:Int)) en);clear f d;go_wp2_with fail
     refine D.out.mono ?_;rintro e U ⟨rfl,y,q⟩;go_wp2_with fail
     go_end0
     refine⟨rfl,?_,j.out.trans (F.out.trans q)⟩;rw[Hob.out,<- Yo];exact y
    .have Hob:=Ya (show bOp h.fr h.r.locals 4 en nm N at_=[bI en (11+(at_:Int)) (11+(at_:Int)) (11+(at_:Int)+1) 0] from by show [bI en _ _ (12+(at_:Int)) 0]=_;rw[show 11+(at_:Int)+1=12+(at_:Int) from by omega])
     have D:=Ya (Zaw I.out g (by rw[l];omega) en (11+(at_:Int)) (11+(at_:Int)) (11+(at_:Int)+1) 0);clear f d;go_wp2_with fail
     refine D.out.mono ?_;rintro e U ⟨rfl,y,q⟩;go_wp2_with fail
     go_end0
     refine⟨rfl,?_,j.out.trans (F.out.trans q)⟩;rw[Hob.out,<- Yo];exact y
    .have Hob:=Ya (show bOp h.fr h.r.locals 5 en nm N at_=[bI 24 (11+(at_:Int)) (11+(at_:Int)) 0 en] from rfl)
     have D:=Ya (Zaw I.out g (by rw[l];omega) 24 (11+(at_:Int)) (11+(at_:Int)) 0 en);clear f d;go_wp2_with fail
     refine D.out.mono ?_;rintro e U ⟨rfl,y,q⟩;go_wp2_with fail
     go_end0
     refine⟨rfl,?_,j.out.trans (F.out.trans q)⟩;rw[Hob.out,<- Yo];exact y
    .have Hob:=Ya (show bOp h.fr h.r.locals 6 en nm N at_=bCall h.fr h.r.locals nm N at_ from rfl)
     have D:=Ya (Z0g I.out g hO 6 en nm A N c at_ (by omega) (by omega) (by rw[l,<- Hob.out,<- c7.out];omega));clear f d;go_wp2_with fail
     refine D.out.mono ?_;rintro e U ⟨rfl,y,q⟩;go_wp2_with fail
     go_end0
     refine⟨rfl,?_,j.out.trans (F.out.trans q)⟩;rw[Hob.out,<- Yo];exact y
    .have Hob:=Ya (show bOp h.fr h.r.locals 7 en nm N at_=[bI 9 (11+(at_:Int)) (11+(at_:Int)) (11+(at_:Int)+1) 0]++bConst (11+(at_:Int)+1) 1++[bI 14 (11+(at_:Int)) (11+(at_:Int)) (11+(at_:Int)+1) 0] from by
      show [bI 9 _ _ (12+(at_:Int)) 0]++bConst (12+(at_:Int)) 1++[bI 14 _ _ (12+(at_:Int)) 0]=_
      rw[show 11+(at_:Int)+1=12+(at_:Int) from by omega])
     have D:=Ya (Zaw I.out g (by rw[l];omega) 9 (11+(at_:Int)) (11+(at_:Int)) (11+(at_:Int)+1) 0);clear f d;go_wp2_with fail
     refine D.out.mono ?_;rintro e U ⟨rfl,y,q⟩;have d5:=Ya (Ziq y (by have:=q.size;omega) (by rw[Yc,l];show _+1+1<=_;omega) (11+(at_:Int)+1) 1 (by omega));have e0:=q.keep _ _ _ _ m.out (by decide) (by decide);go_wp2_with fail
     refine d5.out.mono ?_;rintro e w5 ⟨rfl,h5,h6⟩;have c5:=Ya (Zaw h5 (by have:=q.size;have:=h6.size;omega) (by rw[Yc,Yc,l];show _+1+1<=_;omega) 14 (11+(at_:Int)) (11+(at_:Int)) (11+(at_:Int)+1) 0);go_wp2_with fail
     refine c5.out.mono ?_;rintro e w6 ⟨rfl,h7,h8⟩;go_wp2_with fail
     go_end0
     refine⟨rfl,?_,j.out.trans (F.out.trans ((q.trans h6).trans h8))⟩;rw[Hob.out]
     simpa[Yo] using h7
    .have Hob:=Ya (show bOp h.fr h.r.locals 8 en nm N at_=[bI 34 (11+(at_:Int)) 0 0 0] from rfl)
     have D:=Ya (Zaw I.out g (by rw[l];omega) 34 (11+(at_:Int)) 0 0 0);clear f d;go_wp2_with fail
     refine D.out.mono ?_;rintro e U ⟨rfl,y,q⟩;go_wp2_with fail
     go_end0
     refine⟨rfl,?_,j.out.trans (F.out.trans q)⟩;rw[Hob.out,<- Yo];exact y
    .have Hob:=Ya (show bOp h.fr h.r.locals 9 en nm N at_=[bA (11+(at_:Int)) nm] from rfl)
     clear f d;go_wp2_with fail
     refine wp_region_any (by kernel_rfl) ?_;change wpAny _ _ _ _ _ _ _ (World.drew z);have P:Below z.heap.size z z.drew:=⟨rfl,rfl,rfl,Yd _,λ _ _=>rfl⟩
     have b4:w.heap.size<z.heap.size:=by
      rcases Nat.lt_or_ge w.heap.size z.heap.size with h'|h'
      .exact h'
      .have:=m.out;simp[Array.getElem?_eq_none h'] at this
     have H3:=I.out.keep P;have a9:=(P.block _ b4).trans m.out;have a5:=Ya (F.out.trans (CK.of P g));have s:base<=z.drew.heap.size:=Yaa g P.size;clear c0 c1 c2 c3 P I m;generalize z.drew=w3 at *;have q2:w3.cell? ⟨w.heap.size,2,none⟩=some (.string nm):=by rw[Yb a9];rfl
     have d0:(xs++ks).length<=100000000:=by rw[l];omega
     obtain⟨zs,a0⟩:=Yx (xs++ks);rw[<- a0] at H3 d0;have Z:=Ya a0;clear l a0;have G:=H3.lt;obtain⟨M,v,hk,ho⟩:=H3;have c6:w3.cell? ⟨p,6,none⟩=some v:=by rw[Yb hk];rfl
     have R:=Ya hk;have T:=Ya ho;obtain⟨A',c',rfl⟩:=Za ho;clear hk ho a9
     (refine wpAny_take (i:=0) (v:=?vv13) rfl (by kernel_rfl) (by kernel_rfl) (by kernel_rfl) (λ _ _ _ h=>h) (Or.inl ⟨by rfl,?yy13⟩) ?zz13;(case yy13=>intro w;go_simp;try with_reducible rfl);go_simp)
     (refine wpAny_take (i:=1) (v:=?vv14) rfl (by kernel_rfl) (by kernel_rfl) (by kernel_rfl) (λ _ _ _ h=>h) (Or.inl ⟨by rfl,?yy14⟩) ?zz14;(case yy14=>intro w;go_simp;try with_reducible rfl);go_simp)
     (refine wpAny_take (i:=2) (v:=?vv15) rfl (by kernel_rfl) (by kernel_rfl) (by kernel_rfl) (λ _ _ _ h=>h) (Or.inl ⟨by rfl,?yy15⟩) ?zz15;(case yy15=>intro w;go_simp;try with_reducible rfl);go_simp)
     (refine wpAny_take (i:=3) (v:=?vv16) rfl (by kernel_rfl) (by kernel_rfl) (by kernel_rfl) (λ _ _ _ h=>h) (Or.inl ⟨by rfl,?yy16⟩) ?zz16;(case yy16=>intro w;go_simp;try with_reducible rfl);go_simp)
     (refine wpAny_take (i:=5) (v:=?vv17) rfl (by kernel_rfl) (by kernel_rfl) (by kernel_rfl) (λ _ _ _ h=>h) (Or.inl ⟨by rfl,?yy17⟩) ?zz17;(case yy17=>intro w;go_simp;try with_reducible rfl);go_simp)
     (refine wpAny_take (i:=6) (v:=?vv18) rfl (by kernel_rfl) (by kernel_rfl) (by kernel_rfl) (λ _ _ _ h=>h) (Or.inl ⟨by rfl,?yy18⟩) ?zz18;(case yy18=>intro w;go_simp;try with_reducible rfl);go_simp)
     (refine wpAny_take (i:=7) (v:=?vv19) rfl (by kernel_rfl) (by kernel_rfl) (by kernel_rfl) (λ _ _ _ h=>h) (Or.inl ⟨by rfl,?yy19⟩) ?zz19;(case yy19=>intro w;go_simp;try with_reducible rfl);go_simp)
     refine wpAny_ready (rs:=[4,8]) (by kernel_rfl) (by simp) ?_;refine Yf rfl (λ K a=>?_) (Yf rfl (λ K a=>?_) Yi)
     .go_simp
      refine a _ _ ?_;clear a K
      (refine wpAny_ready (rs:=[8]) (by kernel_rfl) (by simp) ?_;refine Yf rfl (λ K a=>?_) Yi;go_simp;refine a _ _ ?_;clear a K)
      (refine wpAny_take (i:=9) (v:=?vv20) rfl (by kernel_rfl) (by kernel_rfl) (by kernel_rfl) (λ _ _ _ h=>h) (Or.inl ⟨by rfl,?yy20⟩) ?zz20;(case yy20=>intro w;go_simp;try with_reducible rfl);go_simp)
      (refine wpAny_ready (rs:=[10]) (by kernel_rfl) (by simp) ?_;refine Yf rfl (λ K a=>?_) Yi;go_simp;refine a _ _ ?_;clear a K)
      refine wpAny_ready (rs:=[11]) (by kernel_rfl) (by simp) ?_;refine Yf rfl (λ K a=>?_) Yi;rw[if_pos (by simp[Region.wanted])];refine Zda (.tmp 108) (.tmp 114) _ rfl base 135 Zu underlying103 rfl (by decide) (Zb (bA (11+(at_:Int)) nm)).toArray _ _ _ rfl T.out rfl rfl rfl (by simp[Value.oneCell',Zb]) (by simp only[maxLen];omega) (by omega) s ?_;intro v' V C B O _;obtain⟨A8,c8,rfl⟩:=Za C;have E:=(B.block p G (λ e=>Zak T.out R.out (by decide) e.symm)).trans R.out;have f6:V.frozen? ⟨p,6,none⟩=false:=Yai E 6;have d6:∃u,V.cell? ⟨p,6,none⟩=some u:=⟨_,by rw[Yb E];rfl⟩
      obtain⟨u6,d6⟩:=d6;refine a _ _ ?_;clear a K;go_simp
      (refine wpAny_take (i:=12) (v:=?vv21) rfl (by kernel_rfl) (by kernel_rfl) (by kernel_rfl) (λ _ _ _ h=>h) (Or.inl ⟨by rfl,?yy21⟩) ?zz21;(case yy21=>intro w;go_simp;try with_reducible rfl);go_simp)
      (refine wpAny_take (i:=13) (v:=?vv22) rfl (by kernel_rfl) (by kernel_rfl) (by kernel_rfl) (λ _ _ _ h=>h) (Or.inl ⟨by rfl,?yy22⟩) ?zz22;(case yy22=>intro w;go_simp;try with_reducible rfl);go_simp)
      (refine wpAny_ready (rs:=[14]) (by kernel_rfl) (by simp) ?_;refine Yf rfl (λ K a=>?_) Yi;go_simp;refine a _ _ ?_;clear a K)
      refine wpAny_done (by kernel_rfl) ?_ _;go_wp2_with fail
      go_end0
      obtain⟨q1,q2⟩:=Zaj (x:=bA (11+(at_:Int)) nm) M s R.out T.out C B O;refine⟨rfl,?_,j.out.trans (a5.out.trans q2)⟩;rw[Hob.out,<- Yo,<- Z.out];exact q1
     .go_simp
      refine a _ _ ?_;clear a K
      (refine wpAny_take (i:=9) (v:=?vv23) rfl (by kernel_rfl) (by kernel_rfl) (by kernel_rfl) (λ _ _ _ h=>h) (Or.inl ⟨by rfl,?yy23⟩) ?zz23;(case yy23=>intro w;go_simp;try with_reducible rfl);go_simp)
      refine wpAny_ready (rs:=[4,10]) (by kernel_rfl) (by simp) ?_;refine Yf rfl (λ K a=>?_) (Yf rfl (λ K a=>?_) Yi)
      .go_simp
       refine a _ _ ?_;clear a K
       (refine wpAny_ready (rs:=[10]) (by kernel_rfl) (by simp) ?_;refine Yf rfl (λ K a=>?_) Yi;go_simp;refine a _ _ ?_;clear a K)
       refine wpAny_ready (rs:=[11]) (by kernel_rfl) (by simp) ?_;refine Yf rfl (λ K a=>?_) Yi;rw[if_pos (by simp[Region.wanted])];refine Zda (.tmp 108) (.tmp 114) _ rfl base 135 Zu underlying103 rfl (by decide) (Zb (bA (11+(at_:Int)) nm)).toArray _ _ _ rfl T.out rfl rfl rfl (by simp[Value.oneCell',Zb]) (by simp only[maxLen];omega) (by omega) s ?_;intro v' V C B O _;obtain⟨A8,c8,rfl⟩:=Za C;have E:=(B.block p G (λ e=>Zak T.out R.out (by decide) e.symm)).trans R.out;have f6:V.frozen? ⟨p,6,none⟩=false:=Yai E 6;have d6:∃u,V.cell? ⟨p,6,none⟩=some u:=⟨_,by rw[Yb E];rfl⟩
       obtain⟨u6,d6⟩:=d6;refine a _ _ ?_;clear a K;go_simp
       (refine wpAny_take (i:=12) (v:=?vv24) rfl (by kernel_rfl) (by kernel_rfl) (by kernel_rfl) (λ _ _ _ h=>h) (Or.inl ⟨by rfl,?yy24⟩) ?zz24;(case yy24=>intro w;go_simp;try with_reducible rfl);go_simp)
       (refine wpAny_take (i:=13) (v:=?vv25) rfl (by kernel_rfl) (by kernel_rfl) (by kernel_rfl) (λ _ _ _ h=>h) (Or.inl ⟨by rfl,?yy25⟩) ?zz25;(case yy25=>intro w;go_simp;try with_reducible rfl);go_simp)
       (refine wpAny_ready (rs:=[14]) (by kernel_rfl) (by simp) ?_;refine Yf rfl (λ K a=>?_) Yi;go_simp;refine a _ _ ?_;clear a K)
       refine wpAny_done (by kernel_rfl) ?_ _;go_wp2_with fail
       go_end0
       obtain⟨q1,q2⟩:=Zaj (x:=bA (11+(at_:Int)) nm) M s R.out T.out C B O;refine⟨rfl,?_,j.out.trans (a5.out.trans q2)⟩;rw[Hob.out,<- Yo,<- Z.out];exact q1
      .go_simp
       refine a _ _ ?_;clear a K;have c6:(w3.alloc (Obj.cells (Zb (bA (11+(at_:Int)) nm)).toArray 135)).cell? ⟨p,6,none⟩=some (.slice A' zs.length c'):=by rw[Yb ((heap_alloc_old _ _ G).trans R.out)];rfl
       simp only[Zb,bA] at c6
       (refine wpAny_ready (rs:=[4]) (by kernel_rfl) (by simp) ?_;refine Yf rfl (λ K a=>?_) Yi;go_simp;refine a _ _ ?_;clear a K)
       refine wpAny_ready (rs:=[11]) (by kernel_rfl) (by simp) ?_;refine Yf rfl (λ K a=>?_) Yi;rw[if_pos (by simp[Region.wanted])];refine Zda (.tmp 108) (.tmp 114) _ rfl base 135 Zu underlying103 rfl (by decide) (Zb (bA (11+(at_:Int)) nm)).toArray _ _ _ rfl T.out rfl rfl rfl (by simp[Value.oneCell',Zb]) (by simp only[maxLen];omega) (by omega) s ?_;intro v' V C B O _;obtain⟨A8,c8,rfl⟩:=Za C;have E:=(B.block p G (λ e=>Zak T.out R.out (by decide) e.symm)).trans R.out;have f6:V.frozen? ⟨p,6,none⟩=false:=Yai E 6;have d6:∃u,V.cell? ⟨p,6,none⟩=some u:=⟨_,by rw[Yb E];rfl⟩
       obtain⟨u6,d6⟩:=d6;refine a _ _ ?_;clear a K;go_simp
       (refine wpAny_take (i:=12) (v:=?vv26) rfl (by kernel_rfl) (by kernel_rfl) (by kernel_rfl) (λ _ _ _ h=>h) (Or.inl ⟨by rfl,?yy26⟩) ?zz26;(case yy26=>intro w;go_simp;try with_reducible rfl);go_simp)
       (refine wpAny_take (i:=13) (v:=?vv27) rfl (by kernel_rfl) (by kernel_rfl) (by kernel_rfl) (λ _ _ _ h=>h) (Or.inl ⟨by rfl,?yy27⟩) ?zz27;(case yy27=>intro w;go_simp;try with_reducible rfl);go_simp)
       (refine wpAny_ready (rs:=[14]) (by kernel_rfl) (by simp) ?_;refine Yf rfl (λ K a=>?_) Yi;go_simp;refine a _ _ ?_;clear a K)
       refine wpAny_done (by kernel_rfl) ?_ _;go_wp2_with fail
       go_end0
       obtain⟨q1,q2⟩:=Zaj (x:=bA (11+(at_:Int)) nm) M s R.out T.out C B O;refine⟨rfl,?_,j.out.trans (a5.out.trans q2)⟩;rw[Hob.out,<- Yo,<- Z.out];exact q1
    .have Hob:=Ya (show bOp h.fr h.r.locals 10 en nm N at_=[bLoad h.fr (11+(at_:Int)) 0] from rfl)
     have D:=Ya (Zq5 I.out g (by rw[l];omega) hO (11+(at_:Int)) 0 (by omega));clear f d;go_wp2_with fail
     refine D.out.mono ?_;rintro e U ⟨rfl,y,q⟩;go_wp2_with fail
     go_end0
     refine⟨rfl,?_,j.out.trans (F.out.trans q)⟩;rw[Hob.out,<- Yo];exact y
