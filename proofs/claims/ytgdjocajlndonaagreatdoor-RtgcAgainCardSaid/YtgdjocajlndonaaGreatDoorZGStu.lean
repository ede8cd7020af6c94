/- Parts. -/
import Derived.Test.YtgdjocajlndonaaGreatDoorZKTop
set_option linter.all false
namespace Go.Proofs.YtgdjocajlndonaaGreatDoor
open Go.RowKit
section
variable {gw sw F:List Int}{size H half:Int}{g:S.Gr}
end
section
variable {g:S.Gr}{a0:Int}(hg:g.Ok a0)(hz:a0+S.sizes g.ns<=335544320){x:S.am}(hx:x.Ok)
include hg hz hx
end
section
variable {x:S.am}(hx:x.Ok){F:List Int}{H heap half:Int}(hI:∀ b,(S.ab b (S.aa x.ng) (S.aa x.ns) F (H+heap)).Ok)(hH:H=(S.ab true (S.aa x.ng) (S.aa x.ns) F (H+heap)).lab S.kEnd)(hhf:half=heap/2)(hh0:0<=heap)
 {m0:S.Mach} (hw:S.Wd (S.aa x.ng) (S.aa x.ns) F (H+heap) m0) (h2:m0.mv 2=H) (h3:m0.mv 3=H+half) (h4:m0.mv 4=half) (hfit:S.sizes (S.ac x.nodes)<=half) {g:S.Gr} (hgE:g=S.ah x.nodes H)
include hx hI hH hhf hh0 hw h2 h3 h4 hfit hgE
theorem Zu9 {mem:Int->Int}(hmem:∀ y,0<=y->y≠7->y≠31->y≠102->mem y=(S.a8 x g ((S.ag g m0).setV 26 (H+S.sizes g.ns))).mv y){n0:Int}{l:List Nat}(re:S.Reached g ((x.pl g).map Prod.snd) n0 l) :
 S.an (S.aa x.ng) (S.aa x.ns) F (H+heap) g H ((x.pl g).map Prod.snd) ((x.pl g).map Prod.fst) mem half H (H+half) (H+S.sizes g.ns) (List.range g.ns.length) g.adr n0 l x.nr 2/\∀ y,S.RX (S.ab true (S.aa x.ng) (S.aa x.ns) F (H+heap)) mem x.nr 2 y->y∈(x.pl g).map Prod.fst:=by
 obtain ⟨hg,hz,hfit',hHl,hwd,hrd,hlaid,hin,hlow⟩:=Zjc hx hI hH hhf hh0 hw h2 h3 h4 hfit hgE;obtain ⟨M,hM⟩:=Yx (S.a8 x g ((S.ag g m0).setV 26 (H+S.sizes g.ns)));rw [<- hM] at hmem hlaid hin hlow hwd;obtain ⟨l1,l2,l3,l4,l5,l6,l7,l8,l9⟩:=Zb3 x;have hq:=Zst hg hz hx;have hlab:(S.ab true (S.aa x.ng) (S.aa x.ns) F (H+heap)).lab S.kCode=1312+x.ng+x.ns:=by
  have:=(Zt (hI true)).2.1;rw [Zh,Zh] at this;exact this
 have fst:=Zfw hg hz hx;have rng:∀ y,y∈(x.pl g).map Prod.fst->(y=5\/(16<=y/\y<16+x.nr)\/(32<=y/\y<96)\/(1312<=y/\y<1312+x.ng+x.ns)):=fun y hy=>by
  rcases (fst y).1 hy with h | h | h | h
  ·exact .inr (.inl h)
  ·exact .inr (.inr (.inr h))
  ·exact .inl h
  ·exact .inr (.inr (.inl (Zet h)))
 have low:∀ y,0<=y->y<9->y≠5->y≠6->y≠7->y≠8->mem y=m0.mv y:=fun y h0 h1 h5 h6 h7 h8=>by
  rw [hmem y h0 h7 (by omega) (by omega),hlow y h0 (by omega),if_neg h6,if_neg (by omega),if_neg (by omega),if_neg (by omega),if_neg (fun h=>by have:=rng y h;omega),if_neg h8]
 have e6:mem 6=9:=by rw [hmem 6 (by decide) (by decide) (by decide) (by decide),hlow 6 (by decide) (by omega),if_pos rfl]
 have e9:mem 9=2:=by rw [hmem 9 (by decide) (by decide) (by decide) (by decide),hlow 9 (by decide) (by omega),if_neg (by decide),if_neg (by decide),if_neg (by decide),if_pos rfl]
 have e10:mem 10=(x.q g).1:=by rw [hmem 10 (by decide) (by decide) (by decide) (by decide),hlow 10 (by decide) (by omega),if_neg (by decide),if_neg (by decide),if_pos rfl]
 have e11:mem 11=(x.q g).2.1:=by rw [hmem 11 (by decide) (by decide) (by decide) (by decide),hlow 11 (by decide) (by omega),if_neg (by decide),if_pos rfl]
 have fx:∀ y,S.FX mem (mem 6) 2 y↔S.dh (x.q g).1 (x.q g).2.1 y:=fun y=>by
  rw [e6]
  constructor
  ·rintro ⟨j,hj,i,hi,rfl,hb⟩
   match j,hj with
   | 0,_ =>
    have e:mem (9+1+((0:Nat):Int))=(x.q g).1:=e10;rw [e] at hb;exact .inl ⟨i,hi,by simp,hb⟩
   | 1,_ =>
    have e:mem (9+1+((1:Nat):Int))=(x.q g).2.1:=e11;rw [e] at hb;exact .inr ⟨i,hi,by simp,hb⟩
  ·rintro (⟨i,hi,rfl,hb⟩ | ⟨i,hi,rfl,hb⟩)
   ·refine ⟨0,by decide,i,hi,by simp,?_⟩
    have e:mem (9+1+((0:Nat):Int))=(x.q g).1:=e10;rw [e];exact hb
   ·refine ⟨1,by decide,i,hi,by simp,?_⟩
    have e:mem (9+1+((1:Nat):Int))=(x.q g).2.1:=e11;rw [e];exact hb
 have hroot:∀ y,S.RX (S.ab true (S.aa x.ng) (S.aa x.ns) F (H+heap)) mem x.nr 2 y->y∈(x.pl g).map Prod.fst:=fun y hy=>by
  rw [fst];rcases hy with ((rfl | h) | h) | ⟨h,h'⟩
  ·exact .inr (.inr (.inl rfl))
  ·exact .inl h
  ·exact .inr (.inr (.inr ((fx y).1 h)))
  ·rw [hlab] at h'
   exact .inr (.inl ⟨h,h'⟩)
 refine ⟨Zzk hI hH.symm (by omega) (by omega) hg (fun j hj=>?_) hfit' (fun q hqm=>⟨?_,Zfx hg hz hx q hqm⟩) re ?_ ?_ ?_ ?_ (by omega) (.inr ⟨e6,rfl,e9,by rw [e10];exact hq.b0,by rw [e11];exact hq.b1⟩) (fun y hy=>.inl (hroot y hy)) fun y hy=>?_,hroot⟩
 ·have hE:=Zfj hg hj
  obtain ⟨r1,r2⟩:=hlaid j hj;exact ⟨by rw [hmem _ (by omega) (by omega) (by omega) (by omega)];exact r1,fun k y hy=>by rw [hmem _ (by omega) (by omega) (by omega) (by omega)];exact r2 k y hy⟩
 ·have:=rng q.1 (List.mem_map.2 ⟨q,hqm,rfl⟩)
  rw [hmem _ (by omega) (by omega) (by omega) (by omega)];exact hin q hqm
 ·rw [low 2 (by decide) (by decide) (by decide) (by decide) (by decide) (by decide),h2]
 ·rw [low 3 (by decide) (by decide) (by decide) (by decide) (by decide) (by decide),h3]
 ·rw [low 4 (by decide) (by decide) (by decide) (by decide) (by decide) (by decide),h4]
 ·rw [hmem 8 (by decide) (by decide) (by decide) (by decide),hlow 8 (by decide) (by omega),if_neg (by decide),if_neg (by decide),if_neg (by decide),if_neg (by decide),if_neg (fun h=>by have:=rng 8 h;omega),if_pos rfl]
 ·rcases (fst y).1 hy with h | h | h | h
  ·exact .inl (.inl (.inr h))
  ·refine .inr ⟨h.1,?_⟩
   rw [hlab];exact h.2
  ·exact .inl (.inl (.inl h))
  ·exact .inl (.inr ((fx y).2 h))
end
end Go.Proofs.YtgdjocajlndonaaGreatDoor
