/- The calculus, part twenty: a call that hands back any number of own blocks. -/
import Derived.Test.YtghomncegjamfaaJl
namespace Go.Proofs.Ytghomncegjamfaa
open Go.RowKit
section
variable {P : Program} {n : Nat} {E : Env} {Q : Exit → Act → World → Prop} {ops : Array Oper} {rest : List Oper} {o : Oper} {d : Nat} {f : Nat} {args : Array Value} {w0 : World} {S : List Nat} {H : List HA} {ι : Type} {v : ι → Value}
/-- A call that hands back any number of own blocks. -/
theorem jl_gcallL {As : ι → List HA} (hd : o.dst = some d) (hn : d < n) (hg : want ops E o = some true) (hf : Goes P n E o f args)
    (hc : ∀ w, Hp w0 S H w → Calls P f args w fun e w' => ∃ b, e = .returned (v b) ∧ Hp w [] (As b) w') (k : ∀ b, JL P n Q (Hp w0 S (H ++ As b)) ops rest ((d, v b) :: E)) : JL P n Q (Hp w0 S H) ops (o :: rest) E :=
  jl_call (v := v) (W' := fun b => Hp w0 S (H ++ As b)) hd hn hg hf (fun w hw => (hc w hw).mono fun _ _ ⟨b, he, h⟩ => ⟨b, he, (hw.many h).perm List.perm_append_comm⟩) k
end
end Go.Proofs.Ytghomncegjamfaa
