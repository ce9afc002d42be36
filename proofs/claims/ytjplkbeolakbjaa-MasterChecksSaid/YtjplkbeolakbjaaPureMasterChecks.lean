/- The law MasterChecks: Of, CheckCamera and Check answer as the reference says, for all sensors, cameras and masters. No conditions. -/
import Derived.Test.YtjplkbeolakbjaaSayMasterChecks
import Derived.Test.YtjplkbeolakbjaaFaultMasterChecks
set_option linter.unusedVariables false
set_option linter.unusedSimpArgs false
namespace Go.Proofs.Ytjplkbeolakbjaa.Pure
open Go.RowKit Go.Proofs.Ytjplkbeolakbjaa.PMasterChecks Go.Proofs.YtjplkbeolakbjaaW.PrintWords Go.Proofs.YtjplkbeolakbjaaW.PrintLast Go.Proofs.YtjplkbeolakbjaaW.PrintMore

theorem masters_200 : spylaw3_masters.f 200 = some true := by kernel_rfl

theorem MasterChecks : MasterChecksPure := by
  intro w h l2 l3 l4 full gain noise w' h' full' gain' noise' b d f _ _ _ _ _ _ _ _ _ _ _ _ _ hb hd hf
  obtain ⟨k, hk⟩ : ∃ k, k = 200 + b.length + d.length + f.length + 10 := ⟨_, rfl⟩
  refine ⟨k, ?_⟩
  have hm := at_rounds (g := fun k => spylaw3_masters.f k) (fun k => spylaw3_masters.mono k) (show 200 ≤ k by omega) masters_200
  have e1 : master_Check.f k w' h' full' gain' noise' b d f = spyref3_MasterFault.f k w' h' full' gain' noise' b d f ∧ ∃ e, master_Check.f k w' h' full' gain' noise' b d f = some e := by
    unfold master_Check.f spyref3_MasterFault.f
    rw [camera k (by omega), camera_ref, ob, ob, list_Count k b (by omega) _ _ (by omega), listf_Count k b (by omega) _ _ (by omega), list_Light k d (by omega) _ _ (by omega), listf_Light k d (by omega) _ _ (by omega), list_Part k f (by omega) _ _ (by omega), listf_Part k f (by omega) _ _ (by omega)]
    simp only [ob]
    rw [or_of k _ (by simp) (by simp; omega), ob]
    simp only [firstFault]
    generalize cam w' h' full' gain' noise' = c
    generalize (if (b.length : Int) = wrap64 (w' * h') then firstFault (fun x => chk2 x.f0 x.f1 x.f2 0 65535) b else 3) = x
    generalize (if (d.length : Int) = wrap64 (w' * h') then firstFault (fun x => chk2 x.f0 x.f1 x.f2 0 576460752303423488) d else 3) = y
    generalize (if (f.length : Int) = wrap64 (w' * h') then firstFault (fun x => chk2 x.f0 x.f1 x.f2 0 4096) f else 3) = z
    by_cases h1 : c = 0
    · by_cases h2 : x = 0
      · by_cases h3 : y = 0
        · by_cases h4 : z = 0
          · simp [h1, h2, h3, h4]
          · simp [h1, h2, h3, h4]
        · simp [h1, h2, h3]
      · simp [h1, h2]
    · simp [h1]
  obtain ⟨e1, e, e2⟩ := e1
  unfold spylaw3_MasterChecks.f master_Of.f
  rw [hm, ob, if_pos rfl, ob]
  rw [if_pos (by simp), camera k (by omega), ob, camera_ref, ob, if_pos rfl, ← e1, e2, ob, ob]
  simp
end Go.Proofs.Ytjplkbeolakbjaa.Pure
