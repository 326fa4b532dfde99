/- What the functions answer. -/
import Derived.Test.YtdobhepmepalpaaDoorWalk2
set_option linter.unusedSimpArgs false
set_option linter.unusedVariables false
/- Own: a law over laid tables that decodes. -/
namespace Go.Bw.R1
set_option maxRecDepth 5000
open Go Go.Bw Go.Proofs
theorem law_runW {f : FuncId} {ds ds' : List D} {ts : Sto} (hw : WkL ds ds') (h : EW f ds' [] = some (.ret (B true), ts)) : CallT Tryd.prog gl0 f ds St.empty (fun r _ => r = .ret (.sc (.bool true))) :=
  law_ev an1_its (soundX2 mixed) mixed hw h
theorem bytes_arg {d : D} (h : Arg Tryd.prog 22 d) : ∃ s : ByteArray, Wk d (.ro false (bytesD s)) := by
  obtain ⟨s, _, hw⟩ := Arg.one (by kernel_rfl) (fun _ : ByteArray => True) (fun s => .ro false (bytesD s)) (fun ds hd => by
    obtain ⟨s, h⟩ := Rd.bytes_inv Tryd.underlying22 Tryd.underlying5 hd
    exact ⟨s, trivial, h⟩) h
  exact ⟨s, hw⟩
end Go.Bw.R1
