/- HookPlays: for every input the law returns true, and each argument reads as it did; the variable errors.errorType, strconv's two errors, the tables of names and those that numbers' texts are made of are tied to the program's text (the card). No further conditions. -/
import Derived.Test.YtglilddlhibogaaGreatDoorClosedHookPlays
import Derived.Test.YtglilddlhibogaaGreatDoorLawHookPlays
import Derived.Test.YtglilddlhibogaaGreatDoorReads4
import Derived.Test.YtglilddlhibogaaGreatDoorCards
import Derived.Test.YtglilddlhibogaaGreatDoorTie
set_option linter.unusedSimpArgs false
set_option linter.unusedVariables false
set_option maxRecDepth 100000
set_option maxHeartbeats 100000000
namespace Go.Proofs.YtglilddlhibogaaGreatDoor.hookPlays
open Go.ChangeShapes Go.WideShapes Go.ChangeAt Go.RowKit Go.Joins Go.Deep Go.Proofs.YtglilddlhibogaaGreatDoor.R
theorem own:ownKnob Tryz.prog.godebug=none:=dF
theorem et : Tryz.prog.globalNamed "errors.errorType" = some 5 := dF
theorem rt : (Tryz.prog.cutTypes.find? (·.1 == "internal/reflectlite.rtype")).map (·.2) = some 317 := dF
theorem size:Tryz.prog.types.size=393:=dF
theorem oneRow:((List.range 393).filter fun t=>Tryz.prog.rowNamed t [101,114,114,111,114])=[26]:=dF
theorem handle_of_laid{W:World}(h:laidMetH Tryz.prog Rows.hookPlaysRow.laid W):W.cell? ⟨5,0,none⟩=some (.iface 317 (.agg #[.pointer (some ⟨14,26,none⟩)])):=by
 have h' : laidMet Tryz.prog [("gatehouse/gatehouseref.all", Rows.laid_gatehouse_gatehouseref_all)] W ∧ handlesMet Tryz.prog [("errors.errorType", Rows.laid_errors_errorType)] W := h
 obtain⟨name,u,ty,e1,e2,e3,e4,e5⟩:=h'.2 _ (List.mem_singleton.2 rfl);have en:name=[101,114,114,111,114]:=(Option.some.inj e1).symm;subst en;obtain rfl:=Option.some.inj (rt.symm.trans e2);have hm:ty∈(List.range 393).filter fun t=>Tryz.prog.rowNamed t [101,114,114,111,114]:=List.mem_filter.2 ⟨List.mem_range.2 (by rw[←size];exact e3),e4⟩;rw[oneRow]at hm;obtain rfl:=List.mem_singleton.1 hm;have hh:typeHandle Tryz.prog 26=.pointer (some ⟨14,26,none⟩):=dF;rw[hh]at e5;simpa using World.var?_cell et e5 0
theorem aJ4:Tryz.prog.cellsOf 127=2:=dF
theorem as2:Tryz.prog.cellsOf 2=1:=dF
theorem avg : Tryz.prog.globalNamed "gatehouse/gatehouseref.all" = some 4 := dF
theorem aJ5:(Tryz.prog.globals[(4:Nat)]?).map (·.type)=some 127:=dF
theorem aJ6{W:World}(h:laidMetH Tryz.prog Rows.hookPlaysRow.laid W):Go.Proofs.YtglilddlhibogaaGreatDoor.W.nH W:=by
 have h' : laidMet Tryz.prog [("gatehouse/gatehouseref.all", Rows.laid_gatehouse_gatehouseref_all)] W ∧ handlesMet Tryz.prog [("errors.errorType", Rows.laid_errors_errorType)] W := h
 obtain ⟨g, t, cs, fuel, p, e1, e2, e3, e4⟩ := Lib.laidMet.reads h'.1 (n := "gatehouse/gatehouseref.all") (d := Rows.laid_gatehouse_gatehouseref_all) (List.mem_singleton.2 rfl)
 obtain rfl:=Option.some.inj (avg.symm.trans e1);obtain rfl:=Option.some.inj (aJ5.symm.trans e2);have hc:=Lib.ints_of_struct (k:=.i64) (zs:=[-9223372036854775808,9223372036854775807]) Tryz.underlying127
  (by intro i f hi;rcases i with _|_|i<;>simp at hi<;>subst hi<;>exact⟨Tryz.underlying2,rfl,as2⟩) aJ4 e4
 obtain⟨l⟩:=cs;have hl:l=[aU (-9223372036854775808),aU 9223372036854775807]:=hc;subst hl;have h0:=World.var?_cell avg e3 0;have h1:=World.var?_cell avg e3 1;exact⟨h0,h1⟩
theorem door_met(os:Os)(args:Array Value):laidMetH Tryz.prog Rows.hookPlaysRow.laid ((World.doorLaid Tryz.prog 400 os).forCall (fun _ _=>0) ⟨#[],args,[]⟩).memory :=
 laidMetH_of_parts3 (fuel:=8) (laidMet_of_run' 8 dF dF) dF dF
theorem lifted(os:Os)(started:os.Started)(H:Type)(enc:TypeId × Value→H) :
  ReturnsInHanded {} Tryz.checked os 3 .any (fun w args=>(Rows.hookPlaysSpec.pre enc Tryz.prog Tryz.f3 [] false w args∧laidMetH Tryz.prog Rows.hookPlaysRow.laid w)∧sizedMet enc Tryz.prog Tryz.f3 (OpenSpec.ofChange Rows.hookPlaysSpec) false w args)
   (Rows.hookPlaysSpec.post enc Tryz.prog Tryz.f3 false true false false):=by
 refine returnsInHanded_of_change_and (C:=Tryz.checked) (X:=fun w _=>laidMetH Tryz.prog Rows.hookPlaysRow.laid w) (fun _ _ _ hh h=>h.of_heap hh) own started dF Tryz.func3
  (ChangeSpec.witness_shaped (enc:=enc) (C:=Tryz.checked) (os:=os) (X:=fun w _=>laidMetH Tryz.prog Rows.hookPlaysRow.laid w) false (World.doorLaid Tryz.prog 400 os) #[.agg #[aU 0,aU 0,aU 0],.slice none 0 0] 8 rfl (World.shaped_of_RefB dF dF) dF dF dF (door_met os _)) ?_
 intro W base args ds gs before hval0 hW _ _ hL _;have hval:∀ (j:Nat) t v,Tryz.f3.params[j]?=some t→args[j]?=some v→Value.okWide Tryz.prog W .any base t v:=hval0;have hW':=hW;obtain⟨p,q,hA0,hV,rfl,hfz,hnd⟩:=hW;have hA:DataW.TrodAll enc Tryz.prog W 0 (fun _=>true) true Tryz.f3.params.toList args.toList ds p:=hA0;rw[Tryz.params3]at hA hval;obtain⟨v0,vs0,d0,ds0,p0,q0,hargs,rfl,rfl,h0,r0⟩:=trodAll_cons hA;obtain⟨v1,vs1,d1,ds1,p1,q1,rfl,rfl,rfl,h1,r1⟩:=trodAll_cons r0;obtain⟨rfl,rfl,rfl⟩:=trodAll_nil r1;obtain rfl:args=#[v0,v1]:=by cases args;simp_all
 obtain⟨rfl,rfl⟩:=trodVars_none hV;obtain⟨may,rfl⟩:=aHu (hval 0 22 v0 rfl rfl) h0;have hg:=handle_of_laid hL;have ha:=aJ6 hL;have hlt:∀ x∈p0++(p1++[]),x.block<W.heap.size:=fun x hx=>hW'.lt x (by simpa using hx);have fin:∀ W':World,Below W.heap.size W W'→Rows.hookPlaysSpec.post enc Tryz.prog Tryz.f3 false true false false W #[.agg #[aU (may 0),aU (may 1),aU (may 2)],v1] (.bool true) W':=fun W' hb =>
  Go.Proofs.YtglilddlhibogaaGreatDoor.W.aJ7 (pa:=p0++(p1++[])) (pv:=[]) hb hW' rfl (fun _ _ _=>(trodAll_cons_mk (shut_bool Tryz.underlying4 _) trodAll_mk0))
   (fun sp hsp => trodAll_cons_mk (WideElems.Trod_stays laidOut dF (of_decide_eq_true dF) h0 (fun x hx => hb.same (hlt x af5)) (fun x hx => hsp x af5))
    (trodAll_cons_mk (WideElems.Trod_stays laidOut dF (of_decide_eq_true dF) h1 (fun x hx => hb.same (hlt x af5)) (fun x hx => hsp x af5))
    trodAll_mk0))
   (fun _ _=>rfl) (ok_one dF rfl (okWide_bool_mk Tryz.underlying4 _))
 clear hA0;obtain⟨oa,len,cap,rfl⟩:=okWide_slice Tryz.underlying23 (hval 1 23 v1 rfl rfl);obtain⟨fuel,hf⟩:=h1;obtain⟨oa',cap',l,hv,hcap,hat,hok⟩:=aHz (show DataW.trod enc Tryz.prog W 0 (fun _=>true) true fuel 23 [.slice oa len cap]=some (d1,p1)by simpa[Value.cells]using hf);simp only[Value.slice.injEq]at hv;obtain⟨rfl,hln,rfl⟩:=hv;by_cases hbig:60<len
 ·refine(Go.Proofs.YtglilddlhibogaaGreatDoor.W.aIp may oa len cap hbig W).mono fun e W' ⟨he,hb⟩=>?_;subst he;exact⟨_,rfl,fin W' hb⟩
 ·by_cases hm:∀ k,k<3→1≤may k∧may k≤1000
  ·refine(Go.Proofs.YtglilddlhibogaaGreatDoor.W.aIr may hm oa cap l len hln.symm bQ hbig W hat hok hg ha).mono fun e W' ⟨he,hb⟩=>?_;subst he;exact⟨_,rfl,fin W' hb⟩
  ·have hm':∃ k,k<3∧¬(1≤may k∧may k≤1000):=by
    refine Classical.byContradiction fun hn=>hm fun k hk=>?_;exact Classical.byContradiction fun hk2=>hn ⟨k,hk,hk2⟩
   refine(Go.Proofs.YtglilddlhibogaaGreatDoor.W.aIq may hm' oa len cap hbig W hg).mono fun e W' ⟨he,hb⟩=>?_;subst he;exact⟨_,rfl,fin W' hb⟩
theorem over:Rows.HookPlaysSaid :=
 OpenClaim.holds_of_wide 3 Tryz.f3 rfl rfl rfl rfl rfl rfl rfl ⟨rfl,rfl,rfl,rfl,rfl⟩ rfl rfl rfl rfl rfl dF Tryz.func3 hookPlaysClosed.closed
  (of_decide_eq_true dF) (by unfold Func.isWrapper;first|(rw[dB (by decide +kernel)];kernel_rfl)|(rw[dw (by decide +kernel)];exact⟨rfl,rfl⟩))
  (fun os started H enc _=>lifted os started H enc)
theorem proved:Rows.HookPlaysCardSaid :=
 Claim7.holds_tied_plain_at .later [] [.handle,.data] true _ true
  over (fun _ h=>by cases h) dF (fun _ h=>by cases h) hookPlays_row_tie rfl ⟨rfl,rfl⟩ dF rfl
  (fun f fn hf hfn => by
   obtain rfl : f = 3 := Option.some.inj ((show Tryz.prog.funcNamed "gatehouse/gatehouselaw.HookPlays" = some 3 by kernel_rfl).symm.trans hf) |>.symm
   obtain rfl:fn=Tryz.f3:=(Option.some.inj (Tryz.func3.symm.trans hfn)).symm
   exact⟨by kernel_rfl,fun j t ht=>by
    rw[Tryz.params3]at ht
    have hm:t∈[22,23]:=by simpa using Array.mem_of_getElem? ht
    have hall:([22,23].all fun u=>!Tryz.prog.wantsStandIn u)=true:=dF
    exact(show Tryz.prog.wantsStandIn t=false by simpa using List.all_eq_true.1 hall t hm)⟩)
  dF
#print axioms proved
end Go.Proofs.YtglilddlhibogaaGreatDoor.hookPlays
