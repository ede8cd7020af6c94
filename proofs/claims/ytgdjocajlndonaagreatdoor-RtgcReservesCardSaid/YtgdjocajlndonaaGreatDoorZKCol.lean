/- Parts. -/
import Derived.Test.YtgdjocajlndonaaGreatDoorZKCo
set_option linter.all false
namespace Go.Proofs.YtgdjocajlndonaaGreatDoor
open Go.RowKit
structure CSt (wx:World)(lo b p gb:Nat)(F:Nat->Prop)(H half:Int)(P:List (ByteArray×Int))(g:S.Gr)(m:S.Mach)(Aw Aa:Option Addr)(was at_:List Int)(w:World):Prop where
 kat:KAt w lo b p F H half P m
 gat:GAt w F gb g
 rw:ReadsF w F Aw (was.map (Value.int .u32))
 ra:ReadsF w F Aa (at_.map (Value.int .i64))
 bel:Below lo wx w
section
variable {wx w w':World}{lo b p gb:Nat}{F F':Nat->Prop}{H half:Int}{P:List (ByteArray×Int)}{g:S.Gr}{m m':S.Mach}{Aw Aa:Option Addr}{was at_:List Int}
theorem CSt.pass (h:CSt wx lo b p gb F H half P g m Aw Aa was at_ w)(hk:KAt w' lo b p F' H half P m')(hp:Pass F w F' w'):CSt wx lo b p gb F' H half P g m' Aw Aa was at_ w' :=
 ⟨hk,h.gat.pass hp,h.rw.pass hp,h.ra.pass hp,h.bel.trans (h.kat.lobelow hp.1 h.kat.lolt)⟩
theorem CSt.below (h:CSt wx lo b p gb F H half P g m Aw Aa was at_ w)(hb:Below w.heap.size w w'):CSt wx lo b p gb F H half P g m Aw Aa was at_ w':=h.pass (h.kat.below hb) (.of_below hb)
end
end Go.Proofs.YtgdjocajlndonaaGreatDoor
