/- A part of the proof; each theorem states its conditions. -/
import Derived.Test.YtglilddlhibogaaGreatDoorZZ1
import Derived.Test.YtglilddlhibogaaGreatDoorZZ2
import Derived.Test.YtglilddlhibogaaGreatDoorZZ3
import Derived.Test.YtglilddlhibogaaGreatDoorProg
import Derived.WalkKit
import Derived.Stop.Asserts
import Derived.RowKitTokens
set_option linter.unusedSimpArgs false
set_option linter.unusedVariables false
set_option maxRecDepth 100000
set_option maxHeartbeats 100000000
namespace Go.Proofs.YtglilddlhibogaaGreatDoor.W
open Go.RowKit Go.Extern.Stop Go.Stop Go.Extern
theorem rlm(z:Sem Value)(f:TypeId→Addr→Nat→Nat→Sem Value)(v:Value) :
  ReflectliteValue.method z f #[v]=(do match ←ReflectliteValue.parts v with|none=>z|some (t,a,fl)=>f t a fl (fl%32)):=rfl
theorem aGh(t:Addr)(w:World):(ReflectliteValue.unpack (.iface 236 (.pointer (some t)))).run Tryz.prog w
  = .ok (.agg #[.pointer (some ⟨14,236,none⟩),.pointer (some ⟨w.heap.size,0,none⟩),.int .u64 150]) (w.alloc (.cells #[.pointer (some t)] 236)):=dF
theorem aGi (a : Addr) (w : World) : (ReflectliteValue.methodAny (ReflectliteValue.valueError "reflectlite.Value.Type" 0) (fun t _ _ _ => ReflectliteType.toType t) #[.agg #[.pointer (some ⟨14, 236, none⟩), .pointer (some a), .int .u64 150]]).run Tryz.prog w
  = .ok (.iface 317 (.agg #[.pointer (some ⟨14,236,none⟩)])) w:=dF
theorem aGj(w:World):((ReflectliteType.abiMethod fun t=>(fun a:Nat=>Value.int IntKind.u8 (a:Int)) <$> Rtype.kind t) #[.pointer (some ⟨14,236,none⟩)]).run Tryz.prog w=.ok (.int .u8 22) w:=dF
theorem aGk(w:World):((ReflectliteType.abiMethod fun t=>(fun a:Nat=>Value.int IntKind.u8 (a:Int)) <$> Rtype.kind t) #[.pointer (some ⟨14,30,none⟩)]).run Tryz.prog w=.ok (.int .u8 2) w:=dF
theorem ax2(a:Addr)(w:World):(ReflectliteValue.parts (.agg #[.pointer (some ⟨14,236,none⟩),.pointer (some a),.int .u64 150])).run Tryz.prog w=.ok (some (236,a,150)) w:=dF
theorem aGl(a p:Addr)(W:World)(ha:W.cell? a=some (.pointer (some p))) :
  (ReflectliteValue.method (ReflectliteValue.valueError "reflectlite.Value.IsNil" 0) ReflectliteValue.isNil #[.agg #[.pointer (some ⟨14, 236, none⟩), .pointer (some a), .int .u64 150]]).run Tryz.prog W = .ok (.bool false) W := by
 rw[rlm];simp only[Sem.run_bind,ax2,Result.andThen];simp[ReflectliteValue.isNil,loadVar,isAgg,underlying,Tryz.underlying236,ha,Result.andThen]
theorem aGm(w:World):(ReflectliteType.method ReflectliteType.elem #[.agg #[.pointer (some ⟨14,236,none⟩)]]).run Tryz.prog w=.ok (.iface 317 (.agg #[.pointer (some ⟨14,30,none⟩)])) w:=dF
theorem aGn (w : World) : (ReflectliteType.relation "Implements" ReflectliteType.implements_ #[.agg #[.pointer (some ⟨14, 30, none⟩)], .iface 317 (.agg #[.pointer (some ⟨14, 26, none⟩)])]).run Tryz.prog w = .ok (.bool true) w := dF
theorem aGo(v:Value)(w:World):(ReflectliteType.typeOf #[.iface 30 v]).run Tryz.prog w=.ok (.iface 317 (.agg #[.pointer (some ⟨14,30,none⟩)])) w:=dF
theorem aGp(v:Value)(w:World):(ReflectliteType.typeOf #[.iface 119 v]).run Tryz.prog w=.ok (.iface 317 (.agg #[.pointer (some ⟨14,119,none⟩)])) w:=dF
theorem aGq (w : World) : (ReflectliteType.relation "AssignableTo" ReflectliteType.assignableTo #[.agg #[.pointer (some ⟨14, 30, none⟩)], .iface 317 (.agg #[.pointer (some ⟨14, 30, none⟩)])]).run Tryz.prog w = .ok (.bool true) w := dF
theorem aGr (w : World) : (ReflectliteType.relation "AssignableTo" ReflectliteType.assignableTo #[.agg #[.pointer (some ⟨14, 119, none⟩)], .iface 317 (.agg #[.pointer (some ⟨14, 30, none⟩)])]).run Tryz.prog w = .ok (.bool false) w := dF
theorem aGs(n:Int)(w:World):(ReflectliteValue.unpack (.iface 30 (aU n))).run Tryz.prog w
  = .ok (.agg #[.pointer (some ⟨14,30,none⟩),.pointer (some ⟨w.heap.size,0,none⟩),.int .u64 130]) (w.alloc (.cells #[aU n] 30)):=dF
theorem aGt(w:World):(Rtype.elem? 236).run Tryz.prog w=.ok (some 30) w:=dF
theorem mkE(p:Addr)(w:World):(ReflectliteValue.mk 30 p ReflectliteValue.flagAddr).run Tryz.prog w=.ok (.agg #[.pointer (some ⟨14,30,none⟩),.pointer (some p),.int .u64 386]) w:=dF
theorem aGu(a p:Addr)(W:World)(ha:W.cell? a=some (.pointer (some p))) :
  (ReflectliteValue.method (ReflectliteValue.valueError "reflectlite.Value.Elem" 0) ReflectliteValue.elem #[.agg #[.pointer (some ⟨14, 236, none⟩), .pointer (some a), .int .u64 150]]).run Tryz.prog W
   = .ok (.agg #[.pointer (some ⟨14,30,none⟩),.pointer (some p),.int .u64 386]) W:=by
 rw[rlm];simp only[Sem.run_bind,ax2,Result.andThen];simp[ReflectliteValue.elem,loadVar,isAgg,underlying,Tryz.underlying236,ha,Result.andThen,aGt,mkE]
theorem rls(v x:Value):ReflectliteValue.set #[v,x]=(do
  let (some (dst,a,fl),some (src,b,_)):=(←ReflectliteValue.parts v,←ReflectliteValue.parts x)
   | unsupported (.noEntry "extern/(internal/reflectlite.Value).Set.zeroValue")
  if fl / ReflectliteValue.flagAddr % 2 == 0 then unsupported (.noEntry "extern/(internal/reflectlite.Value).Set.unaddressable")
  let val ←loadVar src b
  if←Rtype.directlyAssignable dst src then storeVar dst a val
  else if←Rtype.implements dst src then
   if(←Rtype.kind src)==20 then
    match val with
    | .nilIface => unsupported (.noEntry "extern/reflectlite: a nil value of one interface type handed on as a value of another")
    |_=>storeVar dst a val
   else storeVar dst a (.iface src val)
  else panicString ("reflectlite.Set: value of type " ++ (← Rtype.spelt src) ++ " is not assignable to type " ++ (← Rtype.spelt dst))
  pure (.tuple #[])):=rfl
theorem aGv(a:Addr)(w:World):(ReflectliteValue.parts (.agg #[.pointer (some ⟨14,30,none⟩),.pointer (some a),.int .u64 386])).run Tryz.prog w=.ok (some (30,a,386)) w:=dF
theorem aGw(a:Addr)(w:World):(ReflectliteValue.parts (.agg #[.pointer (some ⟨14,30,none⟩),.pointer (some a),.int .u64 130])).run Tryz.prog w=.ok (some (30,a,130)) w:=dF
theorem aGx(w:World):(Rtype.directlyAssignable 30 30).run Tryz.prog w=.ok true w:=dF
theorem aGy(ta b:Addr)(n:Int)(old:Value)(W:World)(hb:W.cell? b=some (aU n))(ht:W.cell? ta=some old)(hf:W.frozen? ta=false) :
  (ReflectliteValue.set #[.agg #[.pointer (some ⟨14,30,none⟩),.pointer (some ta),.int .u64 386],.agg #[.pointer (some ⟨14,30,none⟩),.pointer (some b),.int .u64 130]]).run Tryz.prog W
   = .ok (.tuple #[]) (W.setCell ta (aU n)):=by
 rw[rls];simp only[Sem.run_bind,aGv,aGw,Result.andThen];simp[ReflectliteValue.flagAddr,loadVar,isAgg,underlying,Tryz.underlying30,hb,Result.andThen,aGx,storeVar,Value.cells,storeCells,Addr.add];rw[run_store Tryz.prog W ta _ _ iC];simp[ht,hf]
theorem methodKind (h : Value) (w : World) : (Go.method 493 317 (.agg #[h]) "Kind").run Tryz.prog w = .ok (225, h) w := dF
theorem methodElem (h : Value) (w : World) : (Go.method 493 317 (.agg #[h]) "Elem").run Tryz.prog w = .ok (241, .agg #[h]) w := dF
theorem methodImplements (h : Value) (w : World) : (Go.method 493 317 (.agg #[h]) "Implements").run Tryz.prog w = .ok (242, .agg #[h]) w := dF
theorem methodAssignableTo (h : Value) (w : World) : (Go.method 493 317 (.agg #[h]) "AssignableTo").run Tryz.prog w = .ok (239, .agg #[h]) w := dF
theorem aGz(n:Int)(t:Addr)(old:Value)(w:World)(hg:w.cell? ⟨5,0,none⟩=some (.iface 317 (.agg #[.pointer (some ⟨14,26,none⟩)])))(ht0:w.cell? t=some old)(hf0:w.frozen? t=false) :
  Calls Tryz.prog 103 #[.iface 30 (aU n),.iface 236 (.pointer (some t))] w fun ev w'=>ev=.returned (.bool true)∧w'=((((w.alloc (.cells #[.pointer (some t)] 236)).alloc (.cells #[.pointer (some ⟨14,236,none⟩),.pointer (some ⟨w.heap.size,0,none⟩),.int .u64 150] 271)).alloc (.cells #[.pointer (some ⟨14,236,none⟩),.pointer (some ⟨w.heap.size,0,none⟩),.int .u64 150] 271)).alloc (.cells #[aU n] 30)).setCell t (aU n):=by
 have x1:=@run_callFunc_extern Tryz.prog 141 _ (fun args=>ReflectliteValue.unpack (args.getD 0 (.tuple #[]))) Tryz.func141 dF dF dF dF;have x2 := @run_callFunc_extern Tryz.prog 142 _ (ReflectliteValue.methodAny (ReflectliteValue.valueError "reflectlite.Value.Type" 0) (fun t _ _ _ => ReflectliteType.toType t)) Tryz.func142 dF dF dF dF
 have x3 := @run_callFunc_extern Tryz.prog 143 _ (ReflectliteValue.method (ReflectliteValue.valueError "reflectlite.Value.IsNil" 0) ReflectliteValue.isNil) Tryz.func143 dF dF dF dF
 refine ax3 ?_;intro x4 x5;have x6 := @run_callFunc_extern Tryz.prog 242 _ (ReflectliteType.relation "Implements" ReflectliteType.implements_) Tryz.func242 dF dF dF dF
 have x7:=@run_callFunc_extern Tryz.prog 172 _ ReflectliteType.typeOf Tryz.func172 dF dF dF dF;have x8 := @run_callFunc_extern Tryz.prog 239 _ (ReflectliteType.relation "AssignableTo" ReflectliteType.assignableTo) Tryz.func239 dF dF dF dF
 have x9 := @run_callFunc_extern Tryz.prog 173 _ (ReflectliteValue.method (ReflectliteValue.valueError "reflectlite.Value.Elem" 0) ReflectliteValue.elem) Tryz.func173 dF dF dF dF
 refine ax4 ?_;intro x10 m0 m1 m2 m3 m4 m5 m6 m7 m8 m9 m10 m11 m12 m13 m14 n8 hlt;refine ax5 ?_;intro hg2;refine ax6 ?_;intro htl el st;go_enter Tryz.func103,Tryz.ntmps103;go_wp2;refine wp_loop_rounds 2 ?_;rw[rounds_succ];go_wp2_with (rw[rounds_succ]);exact amg
theorem aGA(v:Value)(x:TypeId)(w:World):(Instr.typeAssert (.iface 119 v) x 322 true).run Tryz.prog w=.ok (.tuple #[.nilIface,.bool false]) w:=run_typeAssert_lacksB Tryz.underlying322 dF dF v x w
theorem aGB(v:Value)(x:TypeId)(w:World):(Instr.typeAssert (.iface 119 v) x 172 true).run Tryz.prog w=.ok (.tuple #[.iface 119 v,.bool true]) w:=run_typeAssert_hasB Tryz.underlying172 dF v x w
theorem aGC(v:Value)(x:TypeId)(w:World):(Instr.typeAssert (.iface 30 v) x 172 true).run Tryz.prog w=.ok (.tuple #[.nilIface,.bool false]) w:=run_typeAssert_lacksB Tryz.underlying172 dF dF v x w
theorem methodUnwrap (h : Value) (w : World) : (Go.method 493 119 h "Unwrap").run Tryz.prog w = .ok (230, h) w := dF
theorem aGD(b:Nat)(n:Int)(w:World)(ha:w.cell? ⟨b,0,none⟩=some (aU n)) :
  Calls Tryz.prog 230 #[.pointer (some ⟨b,0,none⟩)] w fun e w'=>e=.returned (.iface 30 (aU n))∧w=w':=by
 go_enter Tryz.func230,Tryz.ntmps230;go_wp2;exact amg
theorem aGE(n:Int)(b:Nat)(t:Addr)(old:Value)(w:World)(hg:w.cell? ⟨5,0,none⟩=some (.iface 317 (.agg #[.pointer (some ⟨14,26,none⟩)])))(ha:w.cell? ⟨b,0,none⟩=some (aU n))(hb:b<w.heap.size)(ht0:w.cell? t=some old)(hf0:w.frozen? t=false) :
  Calls Tryz.prog 103 #[.iface 119 (.pointer (some ⟨b,0,none⟩)),.iface 236 (.pointer (some t))] w fun ev w'=>ev=.returned (.bool true)∧w'=((((w.alloc (.cells #[.pointer (some t)] 236)).alloc (.cells #[.pointer (some ⟨14,236,none⟩),.pointer (some ⟨w.heap.size,0,none⟩),.int .u64 150] 271)).alloc (.cells #[.pointer (some ⟨14,236,none⟩),.pointer (some ⟨w.heap.size,0,none⟩),.int .u64 150] 271)).alloc (.cells #[aU n] 30)).setCell t (aU n):=by
 have x1:=@run_callFunc_extern Tryz.prog 141 _ (fun args=>ReflectliteValue.unpack (args.getD 0 (.tuple #[]))) Tryz.func141 dF dF dF dF;have x2 := @run_callFunc_extern Tryz.prog 142 _ (ReflectliteValue.methodAny (ReflectliteValue.valueError "reflectlite.Value.Type" 0) (fun t _ _ _ => ReflectliteType.toType t)) Tryz.func142 dF dF dF dF
 have x3 := @run_callFunc_extern Tryz.prog 143 _ (ReflectliteValue.method (ReflectliteValue.valueError "reflectlite.Value.IsNil" 0) ReflectliteValue.isNil) Tryz.func143 dF dF dF dF
 refine ax3 ?_;intro x4 x5;have x6 := @run_callFunc_extern Tryz.prog 242 _ (ReflectliteType.relation "Implements" ReflectliteType.implements_) Tryz.func242 dF dF dF dF
 have x7:=@run_callFunc_extern Tryz.prog 172 _ ReflectliteType.typeOf Tryz.func172 dF dF dF dF;have x8 := @run_callFunc_extern Tryz.prog 239 _ (ReflectliteType.relation "AssignableTo" ReflectliteType.assignableTo) Tryz.func239 dF dF dF dF
 have x9 := @run_callFunc_extern Tryz.prog 173 _ (ReflectliteValue.method (ReflectliteValue.valueError "reflectlite.Value.Elem" 0) ReflectliteValue.elem) Tryz.func173 dF dF dF dF
 refine ax4 ?_;intro x10 m0 m1 m2 m3 m4 m5 m6 m7 m8 m9 m10 m11 m12 m13 m14 n8 hlt;refine ax5 ?_;intro hg2;refine ax6 ?_;intro htl el st;have u1:=aGA;have u2:=aGB;have u3:=methodUnwrap;go_enter Tryz.func103,Tryz.ntmps103;go_wp2;refine wp_loop_rounds 2 ?_;rw[rounds_succ];go_wp2_with (first|(rw[rounds_succ])|(go_at_call 230;refine(aGD _ n _ (by rw[World.cell?_alloc_lt _ _ ⟨b,0,none⟩ eU,World.cell?_alloc_lt _ _ ⟨b,0,none⟩ eU,World.cell?_alloc_lt _ _ ⟨b,0,none⟩ hb];exact ha)).mono ?_;rintro e w' ⟨rfl,rfl⟩));exact amg
end Go.Proofs.YtglilddlhibogaaGreatDoor.W
