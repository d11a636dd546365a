/- What it takes to run a function. -/
import Derived.Test.YtnkcimeebobjaaaDoorFitNearestD1
namespace Go.Proofs.YtnkcimeebobjaaaDoor.fitNearest
open Hx Go
set_option maxRecDepth 100000
noncomputable def KC : Ctx := ctxOf Kit Kbt Kex
def Kt : Mem := [(14, [([], .bool true)])]
section
variable {F : Nat → Nat → CallFn} (hF : IsEv KC Kt F)
include hF
theorem Kent6 {a0 a1 a2 : AV} {h : Heap} {R : Ret → Heap → Prop} (hw : W F Ko6_0 ⟨[a0, a1, a2, undefA, undefA, undefA, undefA, undefA, undefA, undefA, undefA, undefA, undefA, undefA, undefA, undefA, undefA, undefA, undefA, undefA, undefA, undefA, undefA, undefA, undefA, undefA, undefA, undefA, undefA, undefA, undefA, undefA, undefA, undefA, undefA, undefA, undefA, undefA, undefA, undefA, undefA, undefA, undefA, undefA, undefA, undefA, undefA], h.ent, []⟩ (finQ Ki6 h R)) : WV F (.fn (.func 6) [] []) [a0, a1, a2] h R := WV_of hF (fi := Ki6) rfl (fun _ => rfl) rfl hw
theorem Kent10 {a0 a1 a2 : AV} {h : Heap} {R : Ret → Heap → Prop} (hw : W F Ko10_0 ⟨[a0, a1, a2, undefA, undefA, undefA, undefA], h.ent, []⟩ (finQ Ki10 h R)) : WV F (.fn (.func 10) [] []) [a0, a1, a2] h R := WV_of hF (fi := Ki10) rfl (fun _ => rfl) rfl hw
theorem Kent32 {a0 : AV} {h : Heap} {R : Ret → Heap → Prop} (hw : W F Ko32_0 ⟨[a0, undefA, undefA, undefA, undefA, undefA], h.ent, []⟩ (finQ Ki32 h R)) : WV F (.fn (.func 32) [] []) [a0] h R := WV_of hF (fi := Ki32) rfl (fun _ => rfl) rfl hw
theorem Kent33 {a0 a1 a2 a3 : AV} {h : Heap} {R : Ret → Heap → Prop} (hw : W F Ko33_0 ⟨[a0, a1, a2, a3, undefA, undefA, undefA, undefA, undefA, undefA, undefA, undefA, undefA, undefA, undefA, undefA, undefA, undefA, undefA, undefA], h.ent, []⟩ (finQ Ki33 h R)) : WV F (.fn (.func 33) [] []) [a0, a1, a2, a3] h R := WV_of hF (fi := Ki33) rfl (fun _ => rfl) rfl hw
theorem Kent34 {a0 a1 : AV} {h : Heap} {R : Ret → Heap → Prop} (hw : W F Ko34_0 ⟨[a0, a1, undefA, undefA, undefA, undefA, undefA, undefA, undefA, undefA], h.ent, []⟩ (finQ Ki34 h R)) : WV F (.fn (.func 34) [] []) [a0, a1] h R := WV_of hF (fi := Ki34) rfl (fun _ => rfl) rfl hw
theorem Kent46 {a0 : AV} {h : Heap} {R : Ret → Heap → Prop} (hw : W F Ko46_0 ⟨[a0, undefA, undefA, undefA, undefA, undefA], h.ent, []⟩ (finQ Ki46 h R)) : WV F (.fn (.func 46) [] []) [a0] h R := WV_of hF (fi := Ki46) rfl (fun _ => rfl) rfl hw
theorem Kent47 {a0 a1 a2 : AV} {h : Heap} {R : Ret → Heap → Prop} (hw : W F Ko47_0 ⟨[a0, a1, a2, undefA, undefA, undefA, undefA, undefA, undefA, undefA, undefA, undefA, undefA, undefA, undefA, undefA, undefA, undefA, undefA, undefA, undefA, undefA, undefA, undefA, undefA, undefA, undefA, undefA], h.ent, []⟩ (finQ Ki47 h R)) : WV F (.fn (.func 47) [] []) [a0, a1, a2] h R := WV_of hF (fi := Ki47) rfl (fun _ => rfl) rfl hw
theorem Kent71 {a0 a1 : AV} {h : Heap} {R : Ret → Heap → Prop} (hw : W F Ko71_0 ⟨[a0, a1, undefA, undefA, undefA, undefA, undefA, undefA], h.ent, []⟩ (finQ Ki71 h R)) : WV F (.fn (.func 71) [] []) [a0, a1] h R := WV_of hF (fi := Ki71) rfl (fun _ => rfl) rfl hw
theorem Kent76 {a0 a1 : AV} {h : Heap} {R : Ret → Heap → Prop} (hw : W F Ko76_0 ⟨[a0, a1, undefA], h.ent, []⟩ (finQ Ki76 h R)) : WV F (.fn (.func 76) [] []) [a0, a1] h R := WV_of hF (fi := Ki76) rfl (fun _ => rfl) rfl hw
theorem Kentc77 {first cap as : List AV} {a0 a1 a2 : AV} {h : Heap} {R : Ret → Heap → Prop} (ha : catL first (catL as cap) = [a0, a1, a2]) (hn : ¬ (first = [] ∧ cap = [])) (hw : W F Ko77_0 ⟨[a0, a1, a2, undefA, undefA], h.ent, []⟩ (finQ Ki77 h R)) : WV F (.fn (.func 77) first cap) as h R := WV_of hF (fi := Ki77) rfl (fun h => absurd h hn) (by rw [ha]; rfl) hw
theorem Kent94 {a0 a1 : AV} {h : Heap} {R : Ret → Heap → Prop} (hw : W F Ko94_0 ⟨[a0, a1, undefA, undefA, undefA, undefA, undefA, undefA, undefA, undefA, undefA, undefA], h.ent, []⟩ (finQ Ki94 h R)) : WV F (.fn (.func 94) [] []) [a0, a1] h R := WV_of hF (fi := Ki94) rfl (fun _ => rfl) rfl hw
theorem Kent97 {a0 a1 a2 a3 a4 : AV} {h : Heap} {R : Ret → Heap → Prop} (hw : W F Ko97_0 ⟨[a0, a1, a2, a3, a4, undefA, undefA, undefA, undefA, undefA, undefA, undefA, undefA, undefA, undefA, undefA, undefA, undefA, undefA, undefA, undefA, undefA, undefA, undefA], h.ent, []⟩ (finQ Ki97 h R)) : WV F (.fn (.func 97) [] []) [a0, a1, a2, a3, a4] h R := WV_of hF (fi := Ki97) rfl (fun _ => rfl) rfl hw
theorem Kent98 {a0 : AV} {h : Heap} {R : Ret → Heap → Prop} (hw : W F Ko98_0 ⟨[a0, undefA], h.ent, []⟩ (finQ Ki98 h R)) : WV F (.fn (.func 98) [] []) [a0] h R := WV_of hF (fi := Ki98) rfl (fun _ => rfl) rfl hw
theorem Kent103 {a0 a1 a2 a3 : AV} {h : Heap} {R : Ret → Heap → Prop} (hw : W F Ko103_0 ⟨[a0, a1, a2, a3, undefA, undefA, undefA, undefA], h.ent, []⟩ (finQ Ki103 h R)) : WV F (.fn (.func 103) [] []) [a0, a1, a2, a3] h R := WV_of hF (fi := Ki103) rfl (fun _ => rfl) rfl hw
theorem Kent112 {a0 : AV} {h : Heap} {R : Ret → Heap → Prop} (hw : W F Ko112_0 ⟨[a0, undefA, undefA, undefA, undefA], h.ent, []⟩ (finQ Ki112 h R)) : WV F (.fn (.func 112) [] []) [a0] h R := WV_of hF (fi := Ki112) rfl (fun _ => rfl) rfl hw
end
end Go.Proofs.YtnkcimeebobjaaaDoor.fitNearest
