/- The closed facts of the row, one by one. No condition. -/
import Derived.Test.YtlhdbnmgiaoeeaaGreatRows
import Derived.JoinedOf
import Derived.KernelRfl
set_option linter.all false
namespace Go.Proofs.YtlhdbnmgiaoeeaaGreat.serverHides
theorem joined_of (P:Program) (f:FuncId) (fn:Func) (s:ChangeSpec) (c:OpenClaim)
 (h1:(c.wf (OpenSpec.ofChange s))=true)
 (h2:(laidOutB P)=true)
 (h3:(mapsRowed P)=true)
 (h4:(fn.params.all (P.readableRec ·))=true)
 (h5:(namedTie P c.named s.vars)=true)
 (h6:((c.stops==[]))=true)
 (h7:((P.stops==[]))=true)
 (h8:((c.knobs==[]))=true)
 (h9:((P.stopKnobs==[]))=true)
 (h10:((c.inPlace==P.inPlace f))=true)
 (h11:((c.unfollowed==P.unfollowed f))=true)
 (h12:((c.recurses==P.recurses f))=true)
 (h13:((c.named==P.varsNamed f))=true)
 (h14:((c.maps==(fn.params.toList++s.plain.varTypes P).any (P.mapsRec ·)))=true)
 (h15:((c.ifaces==(fn.params.toList++s.plain.varTypes P).any (P.ifacesRec ·)))=true)
 (h16:((c.mapsOut==P.mapsAmong fn.resultTypes.toList))=true)
 (h17:((c.loops==(fn.params.toList++s.plain.varTypes P).any (P.loopsFrom ·)))=true)
 (h18:((c.wideKeys==(fn.params.toList++s.plain.varTypes P++fn.resultTypes.toList).any (P.wideKeysFrom ·)))=true)
 (h19:(s.vars.all (P.varReadable ·))=true)
 (h20:(fn.resultTypes.all (λt=>P.readableRec t&&decide (t<P.types.size)))=true)
 (h21:((c.ifacesOut==fn.resultTypes.toList.any (P.ifacesRec ·)))=true)
 (h22:((c.loopsOut==fn.resultTypes.toList.any (P.loopsFrom ·)))=true)
 (h23:((c.plainKeys==P.plainKeys))=true)
 (h24:(c.shortTexts.isNone)=true)
 (h25:(P.stopsHeard)=true)
 (h26:(P.mayEnter)=true)
 (h27:((c.lifted==P.liftsFinal))=true)
 (h28:((P.make==some c.make))=true)
 (h29a:c.domain.isEmpty=true) (h29b:(c.kinds==[])=true)
 (h30:((c.pinned==c.pinnedBy))=true)
 (h31:((c.veiled==(fn.params.toList++s.plain.varTypes P++fn.resultTypes.toList).any (P.veiledRec ·)))=true)
 (h32:(c.veiledFits P fn.params.toList (fn.params.toList++s.plain.varTypes P++fn.resultTypes.toList))=true):joinedFacts P f fn s c=true:=by
 unfold joinedFacts
 rw [h1,h2,h3,h4,h5,h6,h7,h8,h9,h10,h11,h12,h13,h14,h15,h16,h17,h18,h19,h20,h21,h22,h23,h24,h25,h26,h27,h28,if_pos h29a,h29b,h30,h31,h32]
 rfl
theorem f1:(Rows.serverHidesRow.wf (OpenSpec.ofChange Rows.serverHidesSpec))=true:=by kernel_rfl
theorem f2:(laidOutB Tryz.prog)=true:=by kernel_rfl
theorem f3:(mapsRowed Tryz.prog)=true:=by kernel_rfl
theorem f4:(Tryz.f5.params.all (Tryz.prog.readableRec ·))=true:=by kernel_rfl
theorem f5:(namedTie Tryz.prog Rows.serverHidesRow.named Rows.serverHidesSpec.vars)=true:=by kernel_rfl
theorem f6:((Rows.serverHidesRow.stops==[]))=true:=by kernel_rfl
theorem f7:((Tryz.prog.stops==[]))=true:=by kernel_rfl
theorem f8:((Rows.serverHidesRow.knobs==[]))=true:=by kernel_rfl
theorem f9:((Tryz.prog.stopKnobs==[]))=true:=by kernel_rfl
theorem f10:((Rows.serverHidesRow.inPlace==Tryz.prog.inPlace 5))=true:=by kernel_rfl
theorem f11:((Rows.serverHidesRow.unfollowed==Tryz.prog.unfollowed 5))=true:=by kernel_rfl
theorem f12:((Rows.serverHidesRow.recurses==Tryz.prog.recurses 5))=true:=by kernel_rfl
theorem f13:((Rows.serverHidesRow.named==Tryz.prog.varsNamed 5))=true:=by kernel_rfl
theorem f14:((Rows.serverHidesRow.maps==(Tryz.f5.params.toList++Rows.serverHidesSpec.plain.varTypes Tryz.prog).any (Tryz.prog.mapsRec ·)))=true:=by kernel_rfl
theorem f15:((Rows.serverHidesRow.ifaces==(Tryz.f5.params.toList++Rows.serverHidesSpec.plain.varTypes Tryz.prog).any (Tryz.prog.ifacesRec ·)))=true:=by kernel_rfl
theorem f16:((Rows.serverHidesRow.mapsOut==Tryz.prog.mapsAmong Tryz.f5.resultTypes.toList))=true:=by kernel_rfl
theorem f17:((Rows.serverHidesRow.loops==(Tryz.f5.params.toList++Rows.serverHidesSpec.plain.varTypes Tryz.prog).any (Tryz.prog.loopsFrom ·)))=true:=by kernel_rfl
theorem f18:((Rows.serverHidesRow.wideKeys==(Tryz.f5.params.toList++Rows.serverHidesSpec.plain.varTypes Tryz.prog++Tryz.f5.resultTypes.toList).any (Tryz.prog.wideKeysFrom ·)))=true:=by kernel_rfl
theorem f19:(Rows.serverHidesSpec.vars.all (Tryz.prog.varReadable ·))=true:=by kernel_rfl
theorem f20:(Tryz.f5.resultTypes.all (λt=>Tryz.prog.readableRec t&&decide (t<Tryz.prog.types.size)))=true:=by kernel_rfl
theorem f21:((Rows.serverHidesRow.ifacesOut==Tryz.f5.resultTypes.toList.any (Tryz.prog.ifacesRec ·)))=true:=by kernel_rfl
theorem f22:((Rows.serverHidesRow.loopsOut==Tryz.f5.resultTypes.toList.any (Tryz.prog.loopsFrom ·)))=true:=by kernel_rfl
theorem f23:((Rows.serverHidesRow.plainKeys==Tryz.prog.plainKeys))=true:=by kernel_rfl
theorem f24:(Rows.serverHidesRow.shortTexts.isNone)=true:=by kernel_rfl
theorem f25:(Tryz.prog.stopsHeard)=true:=by kernel_rfl
theorem f26:(Tryz.prog.mayEnter)=true:=by kernel_rfl
theorem f27:((Rows.serverHidesRow.lifted==Tryz.prog.liftsFinal))=true:=by kernel_rfl
theorem f28:((Tryz.prog.make==some Rows.serverHidesRow.make))=true:=by kernel_rfl
theorem f29a:Rows.serverHidesRow.domain.isEmpty=true:=by kernel_rfl
theorem f29b:(Rows.serverHidesRow.kinds==[])=true:=by kernel_rfl
theorem f30:((Rows.serverHidesRow.pinned==Rows.serverHidesRow.pinnedBy))=true:=by kernel_rfl
theorem f31:((Rows.serverHidesRow.veiled==(Tryz.f5.params.toList++Rows.serverHidesSpec.plain.varTypes Tryz.prog++Tryz.f5.resultTypes.toList).any (Tryz.prog.veiledRec ·)))=true:=by kernel_rfl
theorem f32:(Rows.serverHidesRow.veiledFits Tryz.prog Tryz.f5.params.toList (Tryz.f5.params.toList++Rows.serverHidesSpec.plain.varTypes Tryz.prog++Tryz.f5.resultTypes.toList))=true:=by kernel_rfl
theorem joined:joinedFacts Tryz.prog 5 Tryz.f5 Rows.serverHidesSpec Rows.serverHidesRow=true:=
 joined_of _ _ _ _ _ f1 f2 f3 f4 f5 f6 f7 f8 f9 f10 f11 f12 f13 f14 f15 f16 f17 f18 f19 f20 f21 f22 f23 f24 f25 f26 f27 f28 f29a f29b f30 f31 f32
end Go.Proofs.YtlhdbnmgiaoeeaaGreat.serverHides
