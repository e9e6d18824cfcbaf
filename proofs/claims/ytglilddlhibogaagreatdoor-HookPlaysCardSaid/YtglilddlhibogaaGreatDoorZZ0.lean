/- Short names for what the proof says again and again; each holds under its own premises. -/
import Derived.Lib.Hide
namespace Go.Proofs
structure ayv where
instance:CoeFun ayv (fun _=>Int→Value):=⟨fun _=>Value.int .i64⟩
def aU:ayv:=⟨⟩
theorem bW{p:Prop}(h:p):Go.RowKit.Hid p:=h
theorem dw{c:Prop}{h:Decidable c}(n:¬c){α:Sort _}{t e:α}:ite c t e=e:=if_neg n
theorem dB{c:Prop}{h:Decidable c}(n:c){α:Sort _}{t e:α}:ite c t e=t:=if_pos n
structure eG(p:Prop):Prop where
  out:p
end Go.Proofs
