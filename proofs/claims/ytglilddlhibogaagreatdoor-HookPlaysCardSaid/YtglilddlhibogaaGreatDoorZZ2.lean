/- Closed pieces of proofs that come again and again, each a proposition's own proof. -/
import Derived.Test.YtglilddlhibogaaGreatDoorZZ0
set_option maxRecDepth 100000
namespace Go.Proofs
variable{p q:Prop}
theorem dF(h:p:=by kernel_rfl):p:=h
theorem ata(h:q)(k:eG q→p:=by
 intro zq
 have i0:∀ w,(Instr.index 53 (.agg #[aU al,aU ah,aU bl,aU bh]) (aU 0)).run Tryz.prog w=.ok (aU al) w:=fun _=>by kernel_rfl
 have i1:∀ w,(Instr.index 53 (.agg #[aU al,aU ah,aU bl,aU bh]) (aU 1)).run Tryz.prog w=.ok (aU ah) w:=fun _=>by kernel_rfl
 have i2:∀ w,(Instr.index 53 (.agg #[aU al,aU ah,aU bl,aU bh]) (aU 2)).run Tryz.prog w=.ok (aU bl) w:=fun _=>by kernel_rfl
 revert i2;revert i1;revert i0
 exact zq.1):p:=k ⟨h⟩
theorem acD(h:p:=by rw[List.size_toArray,ajv];kernel_rfl):p:=h
theorem apt(h:q)(k:eG q→p:=by
 intro zq
 refine fU ?_;intro HW0
 have i0:∀ w,(Instr.index 53 (.agg #[aU al,aU ah,aU bl,aU bh]) (aU 0)).run Tryz.prog w=.ok (aU al) w:=fun _=>by kernel_rfl
 revert i0;revert HW0
 exact zq.1):p:=k ⟨h⟩
theorem atb(h:q)(k:eG q→p:=by
 intro zq
 refine ata ?_;intro i0 i1 i2
 have i3:∀ w,(Instr.index 53 (.agg #[aU al,aU ah,aU bl,aU bh]) (aU 3)).run Tryz.prog w=.ok (aU bh) w:=fun _=>by kernel_rfl
 revert i3;revert i2;revert i1;revert i0
 exact zq.1):p:=k ⟨h⟩
end Go.Proofs
