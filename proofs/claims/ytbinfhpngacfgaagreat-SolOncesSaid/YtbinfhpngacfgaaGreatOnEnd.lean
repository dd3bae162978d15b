/-
  The statement SolOnces holds: for every program, table and list of numbers the given Go function SolOnces returns true and does not panic.
-/
import Derived.Test.YtbinfhpngacfgaaGreatRows
import Derived.Test.YtbinfhpngacfgaaGreatOn18
set_option linter.all false
namespace Go.Proofs.YtbinfhpngacfgaaGreat
open Go Go.Abs Go.ChangeShapes Go.WideShapes Go.ChangeAt Go.RowKit
open Go.Proofs
theorem own:ownKnob Tryz.prog.godebug=none:=by kernel_rfl
def seatE:List TypeId:=[3,9,66,69,73,78,85,88,114,127,140,147,151,187,189,105,108,109,112]
theorem seatE_ok:seatE.all (eN Tryz.prog 8 seatE)=true:=by kernel_rfl
theorem laidOut:laidOutB Tryz.prog=true:=by kernel_rfl
theorem some_kids{α:Type}{kids:List α}(hk:kids.length=3):∃d1 d2 d3,kids=[d1,d2,d3]:=by match kids,hk with|[d1,d2,d3],_=>exact⟨d1,d2,d3,rfl⟩
theorem law_kl(xs:List y)(h:XK Tryz.prog 8 Tryz.f14.params.toList xs):KL Tryz.prog cfg (.fn 14) xs [] [] false none=.ok (.ret (.d (.bool true)),[]):=by obtain⟨d1,l1,rfl,h1,h⟩:=Uk (t:=26) h AQz;obtain⟨d2,l2,rfl,h2,h⟩:=Uk (t:=92) h AQ1;obtain⟨d3,l3,rfl,h3,h⟩:=Uk (t:=93) h AQ2;obtain rfl:=ADr h;obtain⟨p,rfl,hp⟩:=vL d1 h1;obtain⟨t,rfl,_⟩:=ACD d2 h2;obtain⟨ks,rfl,hks⟩:=pc d3 h3;rw[AIn AOK,show uC t=[.co (t.map kf)]from rfl,wo AOL,show z9 ks=[.co (ks.map H7)]from rfl,wo AOM];exact ADt (ABp p t ks hp hks.1 hks.2)
set_option maxRecDepth 10000 in
theorem law_lifted(os:Os)(started:os.Started)(H:Type)(enc:TypeId×Value->H):
 ReturnsInHanded {} Tryz.checked os 14 .any (Rows.solOncesSpec.pre6 enc Tryz.prog Tryz.f14 Rows.solOncesRow.domain false) (Rows.solOncesSpec.post enc Tryz.prog Tryz.f14 false true false false):=by
 refine returnsInHanded_of_change (C:=Tryz.checked) own started (by kernel_rfl) Tryz.func14
  (ChangeSpec.witness6 (enc:=enc) (C:=Tryz.checked) false ⟨#[],Tryz.f14.params.map λt=>((Tryz.prog.info? t).bind (·.zero)).getD .nilIface,[]⟩ 8 (by kernel_rfl) (by kernel_rfl) (by kernel_rfl) (by kernel_rfl)) ?_
 intro W base args ds gs before hval hW _ _;exact Z5 ACf laidOut (t:=4) (n:=8) seatE_ok (by kernel_rfl) rfl (by kernel_rfl) (by kernel_rfl) (λds h=>by obtain⟨d1,d2,d3,rfl⟩:=some_kids (show ds.length=3 from h);rfl) law_kl W base args ds gs before hval hW
noncomputable abbrev aP:Program:=Tryz.pinned.checked.prog
noncomputable abbrev aF:Func:=Tryz.f14
noncomputable abbrev aS:=Rows.solOncesSpec
noncomputable abbrev aC:=Rows.solOncesRow
theorem jj0:(aC.wf (OpenSpec.ofChange aS))=true:=by kernel_rfl
theorem jj1:(laidOutB aP)=true:=by kernel_rfl
theorem jj2:(mapsRowed aP)=true:=by kernel_rfl
theorem jj3:(aF.params.all (aP.readableRec ·))=true:=by kernel_rfl
theorem jj4:(namedTie aP aC.named aS.vars)=true:=by kernel_rfl
theorem jj5:((aC.stops==[]))=true:=by kernel_rfl
theorem jj6:((aP.stops==[]))=true:=by kernel_rfl
theorem jj7:((aC.knobs==[]))=true:=by kernel_rfl
theorem jj8:((aP.stopKnobs==[]))=true:=by kernel_rfl
theorem jj9:((aC.inPlace==aP.inPlace 14))=true:=by kernel_rfl
theorem jj10:((aC.unfollowed==aP.unfollowed 14))=true:=by kernel_rfl
theorem jj11:((aC.recurses==aP.recurses 14))=true:=by kernel_rfl
theorem jj12:((aC.named==aP.varsNamed 14))=true:=by kernel_rfl
theorem jj13:((aC.maps==(aF.params.toList++aS.plain.varTypes aP).any (aP.mapsRec ·)))=true:=by kernel_rfl
theorem jj14:((aC.ifaces==(aF.params.toList++aS.plain.varTypes aP).any (aP.ifacesRec ·)))=true:=by kernel_rfl
theorem jj15:((aC.mapsOut==aP.mapsAmong aF.resultTypes.toList))=true:=by kernel_rfl
theorem jj16:((aC.loops==(aF.params.toList++aS.plain.varTypes aP).any (aP.loopsFrom ·)))=true:=by kernel_rfl
theorem jj17:((aC.wideKeys==(aF.params.toList++aS.plain.varTypes aP++aF.resultTypes.toList).any (aP.wideKeysFrom ·)))=true:=by kernel_rfl
theorem jj18:(aS.vars.all (aP.varReadable ·))=true:=by kernel_rfl
theorem jj19:(aF.resultTypes.all (λt=>aP.readableRec t&&decide (t<aP.types.size)))=true:=by kernel_rfl
theorem jj20:((aC.ifacesOut==aF.resultTypes.toList.any (aP.ifacesRec ·)))=true:=by kernel_rfl
theorem jj21:((aC.loopsOut==aF.resultTypes.toList.any (aP.loopsFrom ·)))=true:=by kernel_rfl
theorem jj22:((aC.plainKeys==aP.plainKeys))=true:=by kernel_rfl
theorem jj23:(aC.shortTexts.isNone)=true:=by kernel_rfl
theorem jj24:(aP.stopsHeard)=true:=by kernel_rfl
theorem jj25:(aP.mayEnter)=true:=by kernel_rfl
theorem jj26:((aC.lifted==aP.liftsFinal))=true:=by kernel_rfl
theorem jj27:((aP.make==some aC.make))=true:=by kernel_rfl
theorem jj28:((aC.kinds==(if aC.domain.isEmpty then []else aF.params.toList.map λt=>match aP.underlying t with|some (.int k)=>some k|_=>none)))=true:=by kernel_rfl
theorem jj29:((aC.pinned==aC.pinnedBy))=true:=by kernel_rfl
theorem jj30:((aC.veiled==(aF.params.toList++aS.plain.varTypes aP++aF.resultTypes.toList).any (aP.veiledRec ·)))=true:=by kernel_rfl
theorem jj31:(aC.veiledFits aP aF.params.toList (aF.params.toList++aS.plain.varTypes aP++aF.resultTypes.toList))=true:=by kernel_rfl
set_option maxRecDepth 100000 in
theorem closed_all:joinedFacts aP 14 aF aS aC=true:=by unfold joinedFacts;simp only[As];exact⟨⟨⟨⟨⟨⟨⟨⟨⟨⟨⟨⟨⟨⟨⟨⟨⟨⟨⟨⟨⟨⟨⟨⟨⟨⟨⟨⟨⟨⟨⟨jj0,jj1⟩,jj2⟩,jj3⟩,jj4⟩,jj5⟩,jj6⟩,jj7⟩,jj8⟩,jj9⟩,jj10⟩,jj11⟩,jj12⟩,jj13⟩,jj14⟩,jj15⟩,jj16⟩,jj17⟩,jj18⟩,jj19⟩,jj20⟩,jj21⟩,jj22⟩,jj23⟩,jj24⟩,jj25⟩,jj26⟩,jj27⟩,jj28⟩,jj29⟩,jj30⟩,jj31⟩
theorem onces_holds:Rows.SolOncesSaid:=
 OpenClaim.holds_of_wide 14 Tryz.f14 rfl rfl rfl rfl rfl rfl rfl ⟨rfl,rfl,rfl,rfl,rfl⟩ rfl rfl rfl rfl rfl (by kernel_rfl) Tryz.func14 closed_all
  (of_decide_eq_true (by kernel_rfl)) (by unfold Func.isWrapper;first|(rw[D4 (by decide+kernel)];kernel_rfl)|(rw[Co (by decide+kernel)];exact⟨rfl,rfl⟩))
  (λos started H enc _=>law_lifted os started H enc)
end Go.Proofs.YtbinfhpngacfgaaGreat
