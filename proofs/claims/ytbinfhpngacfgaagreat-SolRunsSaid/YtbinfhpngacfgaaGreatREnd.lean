/-
  The statement SolRuns holds: for every program, solution, list of numbers and place the given Go function SolRuns returns true and does not panic.
-/
import Derived.Test.YtbinfhpngacfgaaGreatRows
import Derived.Test.YtbinfhpngacfgaaGreatR17
set_option linter.all false
namespace Go.Proofs.YtbinfhpngacfgaaGreat
open Go Go.Abs Go.ChangeShapes Go.WideShapes Go.ChangeAt Go.RowKit
open Go.Proofs
theorem own:ownKnob Tryz.prog.godebug=none:=by kernel_rfl
def seatE:List TypeId:=[3,9,66,69,73,78,85,88,114,127,140,147,151,187,189]
theorem seatE_ok:seatE.all (EO Tryz.prog 8 seatE)=true:=by kernel_rfl
theorem laidOut:laidOutB Tryz.prog=true:=by kernel_rfl
theorem some_kids{α:Type}{kids:List α}(hk:kids.length=3): ∃d1 d2 d3,kids=[d1,d2,d3]:=by
 match kids,hk with
 |[d1,d2,d3],_=>exact⟨d1,d2,d3,rfl⟩
theorem law_kl(xs:List AV)(h:Td Tryz.prog 8 Tryz.f5.params.toList xs):KL Tryz.prog cfg (.fn 5) xs [] [] false none=.ok (.ret (.d (.bool true)),[]):=by
 obtain⟨d1,l1,rfl,h1,h⟩:=Rb (t:=26) h q5;obtain⟨d2,l2,rfl,h2,h⟩:=Rb (t:=32) h nX;obtain⟨d3,l3,rfl,h3,h⟩:=Rb (t:=51) h AFL;obtain rfl:=sM h;obtain⟨p,rfl,hp⟩:=jI d1 h1;obtain⟨s,rfl,_⟩:=qV d2 h2;obtain⟨x,rfl,hx⟩:=dN d3 h3;rw[YN nM,YN ADM,YN ADN];exact sN (xB p s x.1 x.2 hp)
set_option maxRecDepth 10000 in
theorem law_lifted(os:Os)(started:os.Started)(H:Type)(enc:TypeId×Value->H):
 ReturnsInHanded {} Tryz.checked os 5 .any (Rows.solRunsSpec.pre6 enc Tryz.prog Tryz.f5 Rows.solRunsRow.domain false) (Rows.solRunsSpec.post enc Tryz.prog Tryz.f5 false true false false):=by
 refine returnsInHanded_of_change (C:=Tryz.checked) own started (by kernel_rfl) Tryz.func5
  (ChangeSpec.witness6 (enc:=enc) (C:=Tryz.checked) false ⟨#[],Tryz.f5.params.map fun t=>((Tryz.prog.info? t).bind (·.zero)).getD .nilIface,[]⟩ 8 (by kernel_rfl) (by kernel_rfl) (by kernel_rfl) (by kernel_rfl)) ?_
 intro W base args ds gs before hval hW _ _;exact V5 qm laidOut (t:=4) (n:=8) seatE_ok (by kernel_rfl) rfl (by kernel_rfl) (by kernel_rfl) (fun ds h=>by
  obtain⟨d1,d2,d3,rfl⟩:=some_kids (show ds.length=3 from h);rfl) law_kl W base args ds gs before hval hW
noncomputable abbrev aP:Program:=Tryz.pinned.checked.prog
noncomputable abbrev aF:Func:=Tryz.f5
noncomputable abbrev aS:=Rows.solRunsSpec
noncomputable abbrev aC:=Rows.solRunsRow
theorem z__{p:Prop}(h:p:=by kernel_rfl):p:=h
noncomputable abbrev aQ:=aF.params.toList++aS.plain.varTypes aP
theorem a_:aC.wf (OpenSpec.ofChange aS)=true:=z__
theorem b_:laidOutB aP=true:=z__
theorem c_:mapsRowed aP=true:=z__
theorem d_:aF.params.all (aP.readableRec ·)=true:=z__
theorem e_:namedTie aP aC.named aS.vars=true:=z__
theorem f_:(aC.stops==[])=true:=z__
theorem g_:(aP.stops==[])=true:=z__
theorem h_:(aC.knobs==[])=true:=z__
theorem i_:(aP.stopKnobs==[])=true:=z__
theorem j_:(aC.inPlace==aP.inPlace 5)=true:=z__
theorem k_:(aC.unfollowed==aP.unfollowed 5)=true:=z__
theorem l_:(aC.recurses==aP.recurses 5)=true:=z__
theorem m_:(aC.named==aP.varsNamed 5)=true:=z__
theorem n_:(aC.maps==aQ.any (aP.mapsRec ·))=true:=z__
theorem o_:(aC.ifaces==aQ.any (aP.ifacesRec ·))=true:=z__
theorem p_:(aC.mapsOut==aP.mapsAmong aF.resultTypes.toList)=true:=z__
theorem q_:(aC.loops==aQ.any (aP.loopsFrom ·))=true:=z__
theorem r_:(aC.wideKeys==(aQ++aF.resultTypes.toList).any (aP.wideKeysFrom ·))=true:=z__
theorem s_:aS.vars.all (aP.varReadable ·)=true:=z__
theorem t_:aF.resultTypes.all (fun t=>aP.readableRec t&&decide (t<aP.types.size))=true:=z__
theorem u_:(aC.ifacesOut==aF.resultTypes.toList.any (aP.ifacesRec ·))=true:=z__
theorem v_:(aC.loopsOut==aF.resultTypes.toList.any (aP.loopsFrom ·))=true:=z__
theorem w_:(aC.plainKeys==aP.plainKeys)=true:=z__
theorem x_:aC.shortTexts.isNone=true:=z__
theorem y_:aP.stopsHeard=true:=z__
theorem z_:aP.mayEnter=true:=z__
theorem A_:(aC.lifted==aP.liftsFinal)=true:=z__
theorem B_:(aP.make==some aC.make)=true:=z__
theorem C_:(aC.kinds==(if aC.domain.isEmpty then []else aF.params.toList.map fun t=>match aP.underlying t with|some (.int k)=>some k|_=>none))=true:=z__
theorem D_:(aC.pinned==aC.pinnedBy)=true:=z__
theorem E_:(aC.veiled==(aQ++aF.resultTypes.toList).any (aP.veiledRec ·))=true:=z__
theorem F_:aC.veiledFits aP aF.params.toList (aQ++aF.resultTypes.toList)=true:=z__
set_option maxRecDepth 100000 in
theorem closed_all:joinedFacts aP 5 aF aS aC=true:=by
 unfold joinedFacts;simp only[AP];exact⟨⟨⟨⟨⟨⟨⟨⟨⟨⟨⟨⟨⟨⟨⟨⟨⟨⟨⟨⟨⟨⟨⟨⟨⟨⟨⟨⟨⟨⟨⟨a_,b_⟩,c_⟩,d_⟩,e_⟩,f_⟩,g_⟩,h_⟩,i_⟩,j_⟩,k_⟩,l_⟩,m_⟩,n_⟩,o_⟩,p_⟩,q_⟩,r_⟩,s_⟩,t_⟩,u_⟩,v_⟩,w_⟩,x_⟩,y_⟩,z_⟩,A_⟩,B_⟩,C_⟩,D_⟩,E_⟩,F_⟩
theorem runs_holds:Rows.SolRunsSaid:=
 OpenClaim.holds_of_wide 5 Tryz.f5 rfl rfl rfl rfl rfl rfl rfl ⟨rfl,rfl,rfl,rfl,rfl⟩ rfl rfl rfl rfl rfl (by kernel_rfl) Tryz.func5 closed_all
  (of_decide_eq_true (by kernel_rfl)) (by unfold Func.isWrapper;first|(rw[D4 (by decide+kernel)];kernel_rfl)|(rw[Ci (by decide+kernel)];exact⟨rfl,rfl⟩))
  (fun os started H enc _=>law_lifted os started H enc)
end Go.Proofs.YtbinfhpngacfgaaGreat
