/- Parts. -/
import Derived.Test.YtgdjocajlndonaaGreatDoorZGRes
import Derived.Test.YtgdjocajlndonaaGreatDoorZGLay
set_option linter.all false
namespace Go.Proofs.YtgdjocajlndonaaGreatDoor
section
open Go.RowKit
section
variable {I:S.Img}(hI:I.Ok){i:Nat}(h0:I.i0<=i)(h1:i<I.i1)
include hI h0 h1
end
section
variable {gw sw:List Int}{F:List Int}{size:Int}(hI:∀ b,(S.ab b gw sw F size).Ok)
include hI
theorem Z0g {m:S.Mach}{name:ByteArray}(h:S.b7 gw sw F size m name):S.On (S.ab false gw sw F size) m (S.viewOf m) ((S.ab false gw sw F size).lab name) :=
 ⟨h.ok,h.run,h.len,fun i h0 h1=>h.code i (Nat.le_trans (show (S.ab true gw sw F size).i0<=(S.ab false gw sw F size).i0 from by show 2+gw.length+sw.length<=gw.length+sw.length+8;omega) h0) h1,h.place,fun _ _ _ _=>rfl,fun _ _ _=>rfl,rfl,rfl⟩
theorem Zxn {m:S.Mach}{name:ByteArray}(hm:S.b7 gw sw F size m name){d:Int}{R R0:Int->S.BO->Nat->Prop}(hd:d<=256)(hr:S.Real (S.ab true gw sw F size) name false (S.viewOf m) d R)(hr0:S.Real (S.ab false gw sw F size) name false (S.viewOf m) d R0){N:Nat}{c:Int}
 (hR:∀ ret o k,R ret o k->∃ st',o=.halt c st'/\k<=N) (hR0:∀ ret o k,R0 ret o k->∃ c st',o=.halt c st'/\k<=N) :
 (m.steps_ N).state=1/\(m.steps_ N).code=c/\(m.steps_ N).place≠(S.ab true gw sw F size).lab S.kStub:=by
 obtain ⟨s0,s1⟩:=Zkj hI;obtain ⟨o,k,hRo,hdone⟩:=hr (S.viewOf m) 1056 ((S.ab true gw sw F size).lab S.kStub) (S.Mt.refl_ _) hm.r28 hm.r31 s0 s1 (Int.le_refl _) (by show 1056+d<=1312;omega);obtain ⟨o0,k0,hRo0,hdone0⟩:=hr0 (S.viewOf m) 1056 ((S.ab true gw sw F size).lab S.kStub) (S.Mt.refl_ _) hm.r28 hm.r31 s0 s1 (Int.le_refl _) (by show 1056+d<=1312;omega);obtain ⟨st',rfl,hk⟩:=hR _ _ _ hRo;obtain ⟨c0,st0,rfl,hk0⟩:=hR0 _ _ _ hRo0;obtain ⟨V',g,hmt⟩:=hdone;obtain ⟨V0,g0,hmt0⟩:=hdone0;have off:=Zvh g hk (Zza hI hm);have off0:=Zvh g0 hk0 (Z0g hI hm);refine ⟨off.end_,off.codeIs,fun e=>?_⟩;have hp:=off0.place.1;have h8:=(Zt (hI false)).2.2.2.2.2.2;have hl:=(Zt (hI true)).2.2.1;have hi0:(S.ab false gw sw F size).i0=2+gw.length+sw.length+6:=by show gw.length+sw.length+8=_;omega
 rw [hi0,h8] at hp;omega
end
end
section
open Go.RowKit
section
variable {gw sw F:List Int}{size:Int}
theorem Zni (hI:∀ b,(S.ab b gw sw F size).Ok){m:S.Mach}(h:S.Wd gw sw F size m){name:ByteArray}(hn:name∈S.wTells){d:Int}{R R0:Int->S.BO->Nat->Prop}(hd:d<=256)
 (hr:S.Real (S.ab true gw sw F size) name false (S.viewOf (m.setV 31 ((S.ab true gw sw F size).lab S.kStub))) d R) (hr0:S.Real (S.ab false gw sw F size) name false (S.viewOf (m.setV 31 ((S.ab true gw sw F size).lab S.kStub))) d R0) {N:Nat} {c:Int}
 (hR:∀ ret o k,R ret o k->∃ st',o=.halt c st'/\k<=N) (hR0:∀ ret o k,R0 ret o k->∃ c st',o=.halt c st'/\k<=N) :
 (S.aj (S.ab true gw sw F size) m name N).state=1/\(S.aj (S.ab true gw sw F size) m name N).code=c/\(S.aj (S.ab true gw sw F size) m name N).place≠(S.ab true gw sw F size).lab S.kStub:=by
 obtain ⟨_,n1,n2⟩:=Za2 (hI true) hn;obtain ⟨_,s1,s2⟩:=Za2 (hI true) Zcx;have hset:=Zvf (hI true) h (name:=name) ⟨n1,by omega⟩ ⟨s1,by omega⟩;have e:S.viewOf ((m.setV 31 ((S.ab true gw sw F size).lab S.kStub)).goV ((S.ab true gw sw F size).lab name))=S.viewOf (m.setV 31 ((S.ab true gw sw F size).lab S.kStub)):=by
  have h0:(m.setV 31 ((S.ab true gw sw F size).lab S.kStub)).state=0:=by
   rw [Zb0 (by decide) (by decide)];exact h.run
  unfold S.Mach.goV;rw [if_neg (by rw [h0];decide)];rfl
 exact Zxn hI hset hd (by rw [e];exact hr) (by rw [e];exact hr0) hR hR0
theorem Zix (b:Bool):∃ i,S.Seg (S.ab b gw sw F size) S.kReserve i (S.bItems S.rReserve):=Zrr (j:=6) (r:=S.rReserve) rfl
section
variable {g:S.Gr}{a:Int}{was at_:List Int}{mem:Int->Int}{half fr to_ r26:Int}{il:List Nat}{nu:Nat->Int}{n0:Int}{l:List Nat}{cnt n:Nat}
end
end
section
variable {gw sw F:List Int}{size:Int}{g:S.Gr}{a:Int}{was at_:List Int}{half fr to_ r26:Int}{il:List Nat}{nu:Nat->Int}{n0:Int}{l:List Nat}{cnt n:Nat}
end
end
end Go.Proofs.YtgdjocajlndonaaGreatDoor
