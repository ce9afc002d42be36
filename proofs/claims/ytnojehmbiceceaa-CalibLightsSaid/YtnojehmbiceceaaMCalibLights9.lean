/- Parts of one proof, joined: NumF, G248, G212, G162, E163, G163, G74, E84, E81, G81, G84. -/
import Derived.Test.YtnojehmbiceceaaMCalibLights8
import Derived.Test.YtnojehmbiceceaaProg
section
set_option linter.unusedVariables false
set_option linter.unusedSimpArgs false
namespace Go.Proofs.Ytnojehmbiceceaa.P
open Go Go.Ev Go.Ari Go.Proofs.Ytnojehmbiceceaa.Num1Num Go.Proofs.Ytnojehmbiceceaa.Num2Num Go.Proofs.Ytnojehmbiceceaa.Num3Num Go.Proofs.Ytnojehmbiceceaa.Num4Num Go.Proofs.Ytnojehmbiceceaa.Num5Num Go.Proofs.Ytnojehmbiceceaa.Num6Num
theorem specP_weak {P : Program} {f : FuncId} {α β : Type} {c : CodL α} {p : α → Option β} {res : β → List D} {old : Ev.Spec} (ho : SpecOk P f old) (h : ∀ x r, p x = some r → old.run (c.e x) = some (res r)) : SpecOk P f (specP c p res) :=
  SpecOk.weak ho fun xs rs hr => by
    unfold specP specC at hr
    obtain ⟨x, rfl, hp, rfl⟩ := mkSpec_inv hr
    cases hx : p x with
    | none => rw [hx] at hp; cases hp
    | some r => simp only; exact h x r hx
def uB (x : Int) : Bool := decide (0 ≤ x) && decide (x < 18446744073709551616)
def iB (x : Int) : Bool := decide (-9223372036854775808 ≤ x) && decide (x < 9223372036854775808)
theorem uB_i {x : Int} (h : uB x = true) : U x := by simpa [uB, U] using h
theorem iB_i {x : Int} (h : iB x = true) : I x := by simpa [iB, I] using h
abbrev C1 (k : IntKind) : CodL (Int × Unit) := cCons (cI k) cNil
abbrev C2 (k : IntKind) : CodL (Int × Int × Unit) := cCons (cI k) (cCons (cI k) cNil)
abbrev C3 (k : IntKind) : CodL (Int × Int × Int × Unit) := cCons (cI k) (cCons (cI k) (cCons (cI k) cNil))
abbrev CW : Cod (Int × Int × Unit) := cA 176 (cCons (cI .i64) (cCons (cI .u64) cNil))
/-! ### math/bits -/
def p_bits_Add64 (L : Nat) (x y c : Int) : Option (Int × Int) := cb (uB x && uB y && (decide (0 ≤ c) && decide (c ≤ 1))) (some ((x + y + c) % 18446744073709551616, (x + y + c) / 18446744073709551616)) none
noncomputable def s_bits_Add64 (L : Nat) : Ev.Spec := specP (C3 .u64) (fun x => p_bits_Add64 L x.1 x.2.1 x.2.2.1) fun r => [.int .u64 r.1, .int .u64 r.2]
theorem s_bits_Add64_run (L : Nat) (x y c : Int) : (s_bits_Add64 L).run [.int .u64 x, .int .u64 y, .int .u64 c] = (p_bits_Add64 L x y c).map fun r => [.int .u64 r.1, .int .u64 r.2] := specP_run (C3 .u64) (fun x => p_bits_Add64 L x.1 x.2.1 x.2.2.1) (fun r => [.int .u64 r.1, .int .u64 r.2]) (x, y, c, ())
theorem ok_bits_Add64 (L : Nat) (hL : L ≤ 4611686018427387904) : SpecOk Try.prog 228 (s_bits_Add64 L) := specP_weak sAdd_ok fun x r h => by
  rcases cb_e h with ⟨hc, h⟩ | ⟨_, h⟩
  · simp only [Bool.and_eq_true, decide_eq_true_eq] at hc
    cases h
    exact sAdd_run x.1 x.2.1 x.2.2.1 (uB_i hc.1.1) (uB_i hc.1.2) hc.2.1 hc.2.2
  · cases h
def p_bits_Mul64 (L : Nat) (x y : Int) : Option (Int × Int) := cb (uB x && uB y) (some (x * y / 18446744073709551616, x * y % 18446744073709551616)) none
noncomputable def s_bits_Mul64 (L : Nat) : Ev.Spec := specP (C2 .u64) (fun x => p_bits_Mul64 L x.1 x.2.1) fun r => [.int .u64 r.1, .int .u64 r.2]
theorem s_bits_Mul64_run (L : Nat) (x y : Int) : (s_bits_Mul64 L).run [.int .u64 x, .int .u64 y] = (p_bits_Mul64 L x y).map fun r => [.int .u64 r.1, .int .u64 r.2] := specP_run (C2 .u64) (fun x => p_bits_Mul64 L x.1 x.2.1) (fun r => [.int .u64 r.1, .int .u64 r.2]) (x, y, ())
theorem ok_bits_Mul64 (L : Nat) (hL : L ≤ 4611686018427387904) : SpecOk Try.prog 172 (s_bits_Mul64 L) := specP_weak sMul_ok fun x r h => by
  rcases cb_e h with ⟨hc, h⟩ | ⟨_, h⟩
  · simp only [Bool.and_eq_true] at hc
    cases h
    exact sMul_run x.1 x.2.1 (uB_i hc.1) (uB_i hc.2)
  · cases h
def p_bits_Div64 (L : Nat) (a b c : Int) : Option (Int × Int) := cb (uB a && uB b && uB c && decide (a < c)) (some ((a * 18446744073709551616 + b) / c, (a * 18446744073709551616 + b) % c)) none
noncomputable def s_bits_Div64 (L : Nat) : Ev.Spec := specP (C3 .u64) (fun x => p_bits_Div64 L x.1 x.2.1 x.2.2.1) fun r => [.int .u64 r.1, .int .u64 r.2]
theorem s_bits_Div64_run (L : Nat) (x y c : Int) : (s_bits_Div64 L).run [.int .u64 x, .int .u64 y, .int .u64 c] = (p_bits_Div64 L x y c).map fun r => [.int .u64 r.1, .int .u64 r.2] := specP_run (C3 .u64) (fun x => p_bits_Div64 L x.1 x.2.1 x.2.2.1) (fun r => [.int .u64 r.1, .int .u64 r.2]) (x, y, c, ())
theorem ok_bits_Div64 (L : Nat) (hL : L ≤ 4611686018427387904) : SpecOk Try.prog 203 (s_bits_Div64 L) := specP_weak sDiv_ok fun x r h => by
  rcases cb_e h with ⟨hc, h⟩ | ⟨_, h⟩
  · simp only [Bool.and_eq_true, decide_eq_true_eq] at hc
    cases h
    exact sDiv_run x.1 x.2.1 x.2.2.1 (uB_i hc.1.1.1) (uB_i hc.1.1.2) (uB_i hc.1.2) hc.2
  · cases h
/-! ### package num -/
def wideN (n : Int) : Int × Int := (IntKind.i64.wrap (n / 18446744073709551616), n % 18446744073709551616)
def p_num_Product (L : Nat) (a b : Int) : Option (Int × Int) := cb (iB a && iB b) (some (wideN (a * b))) none
noncomputable def s_num_Product (L : Nat) : Ev.Spec := specP (C2 .i64) (fun x => p_num_Product L x.1 x.2.1) fun r => [.agg 176 [.int .i64 r.1, .int .u64 r.2]]
theorem s_num_Product_run (L : Nat) (x y : Int) : (s_num_Product L).run [.int .i64 x, .int .i64 y] = (p_num_Product L x y).map fun r => [.agg 176 [.int .i64 r.1, .int .u64 r.2]] := specP_run (C2 .i64) (fun x => p_num_Product L x.1 x.2.1) (fun r => [.agg 176 [.int .i64 r.1, .int .u64 r.2]]) (x, y, ())
theorem ok_num_Product (L : Nat) (hL : L ≤ 4611686018427387904) : SpecOk Try.prog 110 (s_num_Product L) := specP_weak sProd_ok fun x r h => by
  rcases cb_e h with ⟨hc, h⟩ | ⟨_, h⟩
  · simp only [Bool.and_eq_true] at hc
    cases h
    exact sProd_run x.1 x.2.1 (iB_i hc.1) (iB_i hc.2)
  · cases h
def p_num_MulDiv (L : Nat) (a b c : Int) : Option (Int × Int) := cb (iB a && iB b && iB c) (some (quoR (a * b) c)) none
noncomputable def s_num_MulDiv (L : Nat) : Ev.Spec := specP (C3 .i64) (fun x => p_num_MulDiv L x.1 x.2.1 x.2.2.1) fun r => [.int .i64 r.1, .int .i64 r.2]
theorem s_num_MulDiv_run (L : Nat) (x y c : Int) : (s_num_MulDiv L).run [.int .i64 x, .int .i64 y, .int .i64 c] = (p_num_MulDiv L x y c).map fun r => [.int .i64 r.1, .int .i64 r.2] := specP_run (C3 .i64) (fun x => p_num_MulDiv L x.1 x.2.1 x.2.2.1) (fun r => [.int .i64 r.1, .int .i64 r.2]) (x, y, c, ())
theorem ok_num_MulDiv (L : Nat) (hL : L ≤ 4611686018427387904) : SpecOk Try.prog 66 (s_num_MulDiv L) := specP_weak sMulDiv_ok fun x r h => by
  rcases cb_e h with ⟨hc, h⟩ | ⟨_, h⟩
  · simp only [Bool.and_eq_true] at hc
    cases h
    exact sMulDiv_run x.1 x.2.1 x.2.2.1 (iB_i hc.1.1) (iB_i hc.1.2) (iB_i hc.2)
  · cases h
def p_num_Wide_Div (L : Nat) (a b d : Int) : Option (Int × Int) := cb (iB a && uB b && iB d) (some (quoR (a * 18446744073709551616 + b) d)) none
noncomputable def s_num_Wide_Div (L : Nat) : Ev.Spec := specP (cCons CW (C1 .i64)) (fun x => p_num_Wide_Div L x.1.1 x.1.2.1 x.2.1) fun r => [.int .i64 r.1, .int .i64 r.2]
theorem s_num_Wide_Div_run (L : Nat) (a b d : Int) : (s_num_Wide_Div L).run [.agg 176 [.int .i64 a, .int .u64 b], .int .i64 d] = (p_num_Wide_Div L a b d).map fun r => [.int .i64 r.1, .int .i64 r.2] := specP_run (cCons CW (C1 .i64)) (fun x => p_num_Wide_Div L x.1.1 x.1.2.1 x.2.1) (fun r => [.int .i64 r.1, .int .i64 r.2]) ((a, b, ()), d, ())
theorem ok_num_Wide_Div (L : Nat) (hL : L ≤ 4611686018427387904) : SpecOk Try.prog 150 (s_num_Wide_Div L) := specP_weak sWdiv_ok fun x r h => by
  rcases cb_e h with ⟨hc, h⟩ | ⟨_, h⟩
  · simp only [Bool.and_eq_true] at hc
    cases h
    exact sWdiv_run x.1.1 x.1.2.1 x.2.1 (iB_i hc.1.1) (uB_i hc.1.2) (iB_i hc.2)
  · cases h
def p_num_Wide_Neg (L : Nat) (a b : Int) : Option (Int × Int) := cb (iB a && uB b) (some (wideN (-(a * 18446744073709551616 + b)))) none
noncomputable def s_num_Wide_Neg (L : Nat) : Ev.Spec := specP (cCons CW cNil) (fun x => p_num_Wide_Neg L x.1.1 x.1.2.1) fun r => [.agg 176 [.int .i64 r.1, .int .u64 r.2]]
theorem s_num_Wide_Neg_run (L : Nat) (a b : Int) : (s_num_Wide_Neg L).run [.agg 176 [.int .i64 a, .int .u64 b]] = (p_num_Wide_Neg L a b).map fun r => [.agg 176 [.int .i64 r.1, .int .u64 r.2]] := specP_run (cCons CW cNil) (fun x => p_num_Wide_Neg L x.1.1 x.1.2.1) (fun r => [.agg 176 [.int .i64 r.1, .int .u64 r.2]]) ((a, b, ()), ())
theorem ok_num_Wide_Neg (L : Nat) (hL : L ≤ 4611686018427387904) : SpecOk Try.prog 183 (s_num_Wide_Neg L) := specP_weak sNeg_ok fun x r h => by
  rcases cb_e h with ⟨hc, h⟩ | ⟨_, h⟩
  · simp only [Bool.and_eq_true] at hc
    cases h
    exact sNeg_run x.1.1 x.1.2.1 (iB_i hc.1) (uB_i hc.2)
  · cases h
noncomputable def p_num_SqrtMul (L : Nat) (a b : Int) : Option Int := cb (iB a && iB b) (some (rootR a b)) none
noncomputable def s_num_SqrtMul (L : Nat) : Ev.Spec := specP (C2 .i64) (fun x => p_num_SqrtMul L x.1 x.2.1) fun r => [.int .i64 r]
theorem s_num_SqrtMul_run (L : Nat) (a b : Int) : (s_num_SqrtMul L).run [.int .i64 a, .int .i64 b] = (p_num_SqrtMul L a b).map fun r => [.int .i64 r] := specP_run (C2 .i64) (fun x => p_num_SqrtMul L x.1 x.2.1) (fun r => [.int .i64 r]) (a, b, ())
theorem ok_num_SqrtMul (L : Nat) (hL : L ≤ 4611686018427387904) : SpecOk Try.prog 109 (s_num_SqrtMul L) := specP_weak sSqrtMul_ok fun x r h => by
  rcases cb_e h with ⟨hc, h⟩ | ⟨_, h⟩
  · simp only [Bool.and_eq_true] at hc
    cases h
    exact sSqrtMul_run x.1 x.2.1 (iB_i hc.1) (iB_i hc.2)
  · cases h
/-! ### the document's -/
def fitB (a b d : Int) : Bool := decide (-9223372036854775808 < a) && (decide (a < 9223372036854775808) && (decide (0 ≤ b) && (decide (b < 9223372036854775808) && (decide (0 < d) && (decide (d < 9223372036854775808) && (decide (-9223372036854775807 < a * b / d) && decide (a * b / d < 9223372036854775807)))))))
theorem fitB_i {a b d : Int} (h : fitB a b d = true) : Fit a b d := by simpa [fitB, Fit] using h
def p2B (a b : Int) : Bool := decide (0 ≤ a) && (decide (a < 9223372036854775808) && (decide (0 ≤ b) && decide (b < 9223372036854775808)))
theorem p2B_i {a b : Int} (h : p2B a b = true) : P2 a b := by simpa [p2B, P2] using h
def p_spyref3_Down (L : Nat) (a b d : Int) : Option Int := cb (fitB a b d) (some (a * b / d)) none
noncomputable def s_spyref3_Down (L : Nat) : Ev.Spec := specP (C3 .i64) (fun x => p_spyref3_Down L x.1 x.2.1 x.2.2.1) fun r => [.int .i64 r]
theorem s_spyref3_Down_run (L : Nat) (x y c : Int) : (s_spyref3_Down L).run [.int .i64 x, .int .i64 y, .int .i64 c] = (p_spyref3_Down L x y c).map fun r => [.int .i64 r] := specP_run (C3 .i64) (fun x => p_spyref3_Down L x.1 x.2.1 x.2.2.1) (fun r => [.int .i64 r]) (x, y, c, ())
theorem ok_spyref3_Down (L : Nat) (hL : L ≤ 4611686018427387904) : SpecOk Try.prog 86 (s_spyref3_Down L) := specP_weak sDown_ok fun x r h => by
  rcases cb_e h with ⟨hc, h⟩ | ⟨_, h⟩
  · cases h
    exact sDown_run x.1 x.2.1 x.2.2.1 (fitB_i hc)
  · cases h
def p_spyref3_Up (L : Nat) (a b d : Int) : Option Int := cb (fitB a b d) (some (cdiv (a * b) d)) none
noncomputable def s_spyref3_Up (L : Nat) : Ev.Spec := specP (C3 .i64) (fun x => p_spyref3_Up L x.1 x.2.1 x.2.2.1) fun r => [.int .i64 r]
theorem s_spyref3_Up_run (L : Nat) (x y c : Int) : (s_spyref3_Up L).run [.int .i64 x, .int .i64 y, .int .i64 c] = (p_spyref3_Up L x y c).map fun r => [.int .i64 r] := specP_run (C3 .i64) (fun x => p_spyref3_Up L x.1 x.2.1 x.2.2.1) (fun r => [.int .i64 r]) (x, y, c, ())
theorem ok_spyref3_Up (L : Nat) (hL : L ≤ 4611686018427387904) : SpecOk Try.prog 87 (s_spyref3_Up L) := specP_weak sUp_ok fun x r h => by
  rcases cb_e h with ⟨hc, h⟩ | ⟨_, h⟩
  · cases h
    exact sUp_run x.1 x.2.1 x.2.2.1 (fitB_i hc)
  · cases h
noncomputable def p_spyref3_Root (L : Nat) (a b : Int) : Option Int := cb (p2B a b) (some (isqrt (a * b))) none
noncomputable def s_spyref3_Root (L : Nat) : Ev.Spec := specP (C2 .i64) (fun x => p_spyref3_Root L x.1 x.2.1) fun r => [.int .i64 r]
theorem s_spyref3_Root_run (L : Nat) (a b : Int) : (s_spyref3_Root L).run [.int .i64 a, .int .i64 b] = (p_spyref3_Root L a b).map fun r => [.int .i64 r] := specP_run (C2 .i64) (fun x => p_spyref3_Root L x.1 x.2.1) (fun r => [.int .i64 r]) (a, b, ())
theorem ok_spyref3_Root (L : Nat) (hL : L ≤ 4611686018427387904) : SpecOk Try.prog 118 (s_spyref3_Root L) := specP_weak sRoot_ok fun x r h => by
  rcases cb_e h with ⟨hc, h⟩ | ⟨_, h⟩
  · cases h
    exact sRoot_run x.1 x.2.1 (p2B_i hc)
  · cases h
end Go.Proofs.Ytnojehmbiceceaa.P
end
section
set_option linter.unusedVariables false
set_option linter.unusedSimpArgs false
set_option maxRecDepth 100000
namespace Go.Proofs.Ytnojehmbiceceaa.P
open Go.Ev Go.IntKind Go.Proofs.Ytnojehmbiceceaa Go.Proofs.Ytnojehmbiceceaa.Ty Go.Proofs.Ytnojehmbiceceaa.E
noncomputable def p_num_Sqrt (L : Nat) (a0 : Int) : Option Int := bnd (p_num_SqrtMul L a0 1) fun r1 => some r1
attribute [local go_sem] Ev.putR_s Ev.putR_0 Ev.thenO_s Ev.thenO_0 Ev.seqR_n Ev.seqR_e Ev.seqR_r Ev.seqR_0 Ev.blkR_e Ev.blkR_n Ev.blkR_r Ev.blkR_0 Ev.normR_s Ev.normR_0 Ev.outR_r Ev.outR_n Ev.outR_0 Ev.retS_s Ev.retS_0 Ev.pureO_s Ev.pureO_0 Ev.topR_0 Ev.topR_t Ev.topR_t0 Ev.oneL_0 Ev.oneL_s Ev.topR_d Ev.topR_nils Ev.topR_agg Ev.topR_rs Ev.evOp_move Ev.evOp_assign Ev.evOp_pick Ev.evOp_alloc Ev.evOp_box Ev.evOp_build Ev.evOp_buildSlice Ev.evOp_load Ev.evOp_store Ev.evOp_makeMap Ev.evOp_lookup Ev.evOp_mapUpdate Ev.evOp_insert Ev.evOp_nilCheck Ev.evOp_binOp Ev.evOp_unOp Ev.evOp_convert Ev.evOp_makeFunc Ev.evOp_makeSlice Ev.evOp_slice Ev.evOp_fieldAddr Ev.evOp_field Ev.evOp_indexAddr Ev.evOp_index Ev.evOp_extract Ev.evOp_call Ev.evOp_append Ev.evOp_clear Ev.evOp_len Ev.evOp_min Ev.evOp_max Ev.condR_b Ev.condR_t Ev.evOps_nil Ev.evOps_plain Ev.evOps_guard Ev.runG_eq Ev.skipG_eq Ev.condL_tt Ev.condL_ff Ev.condL_tf Ev.condL_ft Ev.condL_u Ev.condC_t Ev.condC_f Ev.evC_skip Ev.evC_ret Ev.evC_exit Ev.evC_label Ev.evC_region Ev.evC_draw Ev.evC_seq Ev.evC_cond Ev.evC_block Ev.evC_loop Ev.fin_d Ev.fin_nils Ev.fin_agg_ Ev.fin_rs Ev.finS_s Ev.mapO_fin Ev.upd_upd Ev.argv_d Ev.argv_nils Ev.argv_agg Ev.argv_rs Ev.argv_p Ev.fk_low Ev.appendTo_nils Ev.appendTo_rs Ev.consV_d Ev.consV_agg Ev.consV_p Ev.consV_rs Ev.consV_nils Ev.consV_fn Ev.consV_und Ev.consV_jk Ev.consV_grown Ev.topR_grown Ev.len_grown Ev.consV_mp Ev.sameK_i Ev.sameK_s Ev.mget_0 Ev.mget_hit Ev.mget_miss Ev.mput_0 Ev.mput_hit Ev.mput_miss Ev.apartAll Ev.apartL Ev.apartV Ev.freeAll Ev.sel Ev.keyOfV Ev.evLookup Ev.evPut Ev.hintOk Ev.keyOk Ev.consP Ev.lookV Ev.guardV Ev.dstAt Ev.evPure Ev.evStore Ev.evBin Ev.evBinO Ev.evNil Ev.isNilC Ev.evUn Ev.evConv Ev.evSlice Ev.optI Ev.foldI Ev.capsOk Ev.noTup Ev.nth Ev.setN Ev.killAt Ev.pad Ev.V.get Ev.V.put Ev.putD Ev.newBlk Ev.upd Ev.keq Ev.empty Ev.evCall Ev.V.args Ev.argP Ev.callOf Ev.evNilP Ev.isNilP Ev.look Ev.V.view.views Ev.V.view Ev.V.toD Ev.V.toD.V.toDs Ev.V.pure.pures Ev.V.pure Ev.D.flat.flats Ev.D.flat Ev.mkAgg Ev.allD Ev.aggParts Ev.setParts Ev.setElems Ev.getPath Ev.setPath Ev.subL Ev.eqD Ev.eqD.eqDs Ev.and2 Ev.strCut Ev.evalT Ev.constT Ev.evArgs Ev.mask Ev.maskOf Ev.tableOf Ev.compT Ev.resV Ev.retV Ev.mapO Ev.frzO_n Ev.frzO_e Ev.frzO_r Ev.frzO_0 Ev.mb_z Ev.mb_0 Ev.mb_s Ev.frzL_t Ev.frzL_f Ev.frzL_0 Ev.frzT_nils Ev.frzT_rs Ev.frzT_p Ev.frzK_i Ev.keyIn_i Ev.rI_nil Ev.rI_cons Ev.rI_row Ev.rI_app Ev.r_d Ev.r_nils Ev.r_agg Ev.r_rs Ev.r_gl Ev.vw_row Ev.vw_app Ev.appO_s Ev.frzT_gl Ev.allD_gl Ev.killAt_i Ev.tkOne_i Ev.hT_agg Ev.hT_vagg Ev.hT_int Ev.hT_bool Ev.hT_str Ev.hT_sl Ev.hT_ptr Ev.hT_np Ev.hT_p Ev.hT_rs Ev.hT_mp Ev.hT_nils Ev.hT_fn Ev.hT_jk Ev.hT_gl Ev.eO_sl Ev.eO_nils Ev.eO_rs Ev.eT_sl Ev.eT_rs Ev.pL_str Ev.pL_sl Ev.pL_rs Ev.pL_nils Ev.pL_min Ev.pL_max Ev.len_glB Ev.noTup_gl Ev.rowV_len Ev.rowV_nil Ev.rowV_cons Ev.rowV_append Ev.rowV_set Ev.rowV_replicate Ev.nth_row Ev.row_take Ev.row_drop Ev.toDs_row Ev.fin_row Ev.map_row Ev.map_take_ Ev.map_drop_ Ev.Bk_i Ev.GlB_0 Ev.GlB_mk Ev.gl_nil Ev.gl_cons Ev.gl_snoc Ev.gl_setN Ev.appendTo_gl Ev.consV_gl Ev.elems_gl Ev.fin_gl Ev.view_gl Ev.argv_gl Ev.topR_gl Ev.sp_z Ev.sp_0 Ev.sp_s Ev.km_z Ev.km_0 Ev.km_s Ev.beq_toList Ev.nc0 Ev.bq_t Ev.bq_f Ev.bodyN Ev.le_maxRow Int.cast_ofNat_Int IntWalk.i64_in IntWalk.u64_in IntWalk.u8_in beq_self_eq_true Bool.true_beq Bool.false_beq Bool.and_true Bool.true_and Bool.false_and Bool.and_false Bool.and_self Bool.not_true Bool.not_false Bool.not_eq_true cond_true cond_false if_true if_false and_true true_and and_self decide_true decide_false Bool.or_true Bool.true_or Bool.or_false Bool.false_or List.isEmpty List.isEmpty_nil List.size_toArray List.map List.length_map List.length_cons List.length_nil Option.map Option.bind Option.getD Option.isSome List.replicate Bool.false_eq_true implies_true false_implies forall_const Array.toList Array.isEmpty List.append List.nil_append List.cons_append List.drop_zero List.take_length List.take_succ_cons List.take_zero List.take_nil List.getElem?_map List.getElem?_cons_zero List.getElem?_cons_succ List.getElem?_nil List.append_nil eq_self Int.toNat_natCast List.length_append Nat.zero_add Nat.add_zero List.length_replicate Nat.sub_zero Option.map_some Option.map_none Int.le_refl Nat.le_refl Int.natCast_nonneg List.map_append
noncomputable def G_num_Sqrt (L : Nat) : Specs := [(109, s_num_SqrtMul L)]
noncomputable def T_num_Sqrt : Table := tableOf [(248, en248)]
theorem Go_num_Sqrt (L : Nat) (hL : L ≤ 4611686018427387904) : ∀ g s, Ev.look (G_num_Sqrt L) g = some s → SpecOk Try.prog g s := (specs_cons (ok_num_SqrtMul L hL) specs_nil)
theorem To_num_Sqrt (L : Nat) : TableOk Try.prog ((G_num_Sqrt L).map (·.1)) T_num_Sqrt := (table_cons Try.func248 (by kernel_rfl) (by kernel_rfl) table_nil)
theorem lk_num_Sqrt_109 (L : Nat) : Ev.look (G_num_Sqrt L) 109 = some (s_num_SqrtMul L) := nr rfl
attribute [local go_sem] Ty.tk2 Ty.ik2 Ty.ek2 Ty.zv2 Ty.by2 Ty.so2 E.mk248_1000000 lk_num_Sqrt_109 s_num_SqrtMul_run loopN loops Try.f248
theorem e_num_Sqrt (L : Nat) (hL : L ≤ 4611686018427387904) (a0 : Int) (res : Int) (h : p_num_Sqrt L a0 = some res) : evTop Try.prog (G_num_Sqrt L) T_num_Sqrt L 1 248 [.int .i64 a0] = some [.int .i64 res] := by
  revert h
  unfold p_num_Sqrt evTop
  simp only [List.map]
  rw [evF_s (fn := Try.f248) (msk := en248.ms) (hT := by rfl) (hb := by rfl)]
  refine bnd_i fun r1 c1 => ?_
  rintro ⟨⟩
  simp only [go_sem, Nat.reduceAdd, Nat.reduceSub, Nat.reduceMul, Nat.reduceEqDiff, Nat.reduceBEq, Nat.reduceLT, Nat.reduceLeDiff, Nat.reducePow, Int.reduceToNat, Int.reduceLT, Int.reduceLE, Int.reduceGT, Int.reduceGE, Int.reduceEq, Int.reduceNeg, Int.reduceAdd, Int.reduceSub, Int.reduceMul, ↓reduceIte, reduceCtorEq, *]
noncomputable def s_num_Sqrt (L : Nat) : Ev.Spec := specP (cCons (cI .i64) cNil) (fun x => p_num_Sqrt L x.1) (fun r => [.int .i64 r])
theorem s_num_Sqrt_run (L : Nat) (a0 : Int) : (s_num_Sqrt L).run [.int .i64 a0] = (p_num_Sqrt L a0).map fun r => [.int .i64 r] := specP_run (cCons (cI .i64) cNil) (fun x => p_num_Sqrt L x.1) (fun r => [.int .i64 r]) (a0, ())
theorem ok_num_Sqrt (L : Nat) (hL : L ≤ 4611686018427387904) : SpecOk Try.prog 248 (s_num_Sqrt L) := specP_ok mixed (Go_num_Sqrt L hL) (To_num_Sqrt L) fun x r h => ⟨L, 1, e_num_Sqrt L hL x.1 r h⟩
end Go.Proofs.Ytnojehmbiceceaa.P
end
section
set_option linter.unusedVariables false
set_option linter.unusedSimpArgs false
set_option maxRecDepth 100000
namespace Go.Proofs.Ytnojehmbiceceaa.P
open Go.Ev Go.IntKind Go.Proofs.Ytnojehmbiceceaa Go.Proofs.Ytnojehmbiceceaa.Ty Go.Proofs.Ytnojehmbiceceaa.E
noncomputable def p_quanta_root (L : Nat) (a0 : Int) : Option Int := bnd (p_num_Sqrt L a0) fun r1 => some r1
attribute [local go_sem] Ev.putR_s Ev.putR_0 Ev.thenO_s Ev.thenO_0 Ev.seqR_n Ev.seqR_e Ev.seqR_r Ev.seqR_0 Ev.blkR_e Ev.blkR_n Ev.blkR_r Ev.blkR_0 Ev.normR_s Ev.normR_0 Ev.outR_r Ev.outR_n Ev.outR_0 Ev.retS_s Ev.retS_0 Ev.pureO_s Ev.pureO_0 Ev.topR_0 Ev.topR_t Ev.topR_t0 Ev.oneL_0 Ev.oneL_s Ev.topR_d Ev.topR_nils Ev.topR_agg Ev.topR_rs Ev.evOp_move Ev.evOp_assign Ev.evOp_pick Ev.evOp_alloc Ev.evOp_box Ev.evOp_build Ev.evOp_buildSlice Ev.evOp_load Ev.evOp_store Ev.evOp_makeMap Ev.evOp_lookup Ev.evOp_mapUpdate Ev.evOp_insert Ev.evOp_nilCheck Ev.evOp_binOp Ev.evOp_unOp Ev.evOp_convert Ev.evOp_makeFunc Ev.evOp_makeSlice Ev.evOp_slice Ev.evOp_fieldAddr Ev.evOp_field Ev.evOp_indexAddr Ev.evOp_index Ev.evOp_extract Ev.evOp_call Ev.evOp_append Ev.evOp_clear Ev.evOp_len Ev.evOp_min Ev.evOp_max Ev.condR_b Ev.condR_t Ev.evOps_nil Ev.evOps_plain Ev.evOps_guard Ev.runG_eq Ev.skipG_eq Ev.condL_tt Ev.condL_ff Ev.condL_tf Ev.condL_ft Ev.condL_u Ev.condC_t Ev.condC_f Ev.evC_skip Ev.evC_ret Ev.evC_exit Ev.evC_label Ev.evC_region Ev.evC_draw Ev.evC_seq Ev.evC_cond Ev.evC_block Ev.evC_loop Ev.fin_d Ev.fin_nils Ev.fin_agg_ Ev.fin_rs Ev.finS_s Ev.mapO_fin Ev.upd_upd Ev.argv_d Ev.argv_nils Ev.argv_agg Ev.argv_rs Ev.argv_p Ev.fk_low Ev.appendTo_nils Ev.appendTo_rs Ev.consV_d Ev.consV_agg Ev.consV_p Ev.consV_rs Ev.consV_nils Ev.consV_fn Ev.consV_und Ev.consV_jk Ev.consV_grown Ev.topR_grown Ev.len_grown Ev.consV_mp Ev.sameK_i Ev.sameK_s Ev.mget_0 Ev.mget_hit Ev.mget_miss Ev.mput_0 Ev.mput_hit Ev.mput_miss Ev.apartAll Ev.apartL Ev.apartV Ev.freeAll Ev.sel Ev.keyOfV Ev.evLookup Ev.evPut Ev.hintOk Ev.keyOk Ev.consP Ev.lookV Ev.guardV Ev.dstAt Ev.evPure Ev.evStore Ev.evBin Ev.evBinO Ev.evNil Ev.isNilC Ev.evUn Ev.evConv Ev.evSlice Ev.optI Ev.foldI Ev.capsOk Ev.noTup Ev.nth Ev.setN Ev.killAt Ev.pad Ev.V.get Ev.V.put Ev.putD Ev.newBlk Ev.upd Ev.keq Ev.empty Ev.evCall Ev.V.args Ev.argP Ev.callOf Ev.evNilP Ev.isNilP Ev.look Ev.V.view.views Ev.V.view Ev.V.toD Ev.V.toD.V.toDs Ev.V.pure.pures Ev.V.pure Ev.D.flat.flats Ev.D.flat Ev.mkAgg Ev.allD Ev.aggParts Ev.setParts Ev.setElems Ev.getPath Ev.setPath Ev.subL Ev.eqD Ev.eqD.eqDs Ev.and2 Ev.strCut Ev.evalT Ev.constT Ev.evArgs Ev.mask Ev.maskOf Ev.tableOf Ev.compT Ev.resV Ev.retV Ev.mapO Ev.frzO_n Ev.frzO_e Ev.frzO_r Ev.frzO_0 Ev.mb_z Ev.mb_0 Ev.mb_s Ev.frzL_t Ev.frzL_f Ev.frzL_0 Ev.frzT_nils Ev.frzT_rs Ev.frzT_p Ev.frzK_i Ev.keyIn_i Ev.rI_nil Ev.rI_cons Ev.rI_row Ev.rI_app Ev.r_d Ev.r_nils Ev.r_agg Ev.r_rs Ev.r_gl Ev.vw_row Ev.vw_app Ev.appO_s Ev.frzT_gl Ev.allD_gl Ev.killAt_i Ev.tkOne_i Ev.hT_agg Ev.hT_vagg Ev.hT_int Ev.hT_bool Ev.hT_str Ev.hT_sl Ev.hT_ptr Ev.hT_np Ev.hT_p Ev.hT_rs Ev.hT_mp Ev.hT_nils Ev.hT_fn Ev.hT_jk Ev.hT_gl Ev.eO_sl Ev.eO_nils Ev.eO_rs Ev.eT_sl Ev.eT_rs Ev.pL_str Ev.pL_sl Ev.pL_rs Ev.pL_nils Ev.pL_min Ev.pL_max Ev.len_glB Ev.noTup_gl Ev.rowV_len Ev.rowV_nil Ev.rowV_cons Ev.rowV_append Ev.rowV_set Ev.rowV_replicate Ev.nth_row Ev.row_take Ev.row_drop Ev.toDs_row Ev.fin_row Ev.map_row Ev.map_take_ Ev.map_drop_ Ev.Bk_i Ev.GlB_0 Ev.GlB_mk Ev.gl_nil Ev.gl_cons Ev.gl_snoc Ev.gl_setN Ev.appendTo_gl Ev.consV_gl Ev.elems_gl Ev.fin_gl Ev.view_gl Ev.argv_gl Ev.topR_gl Ev.sp_z Ev.sp_0 Ev.sp_s Ev.km_z Ev.km_0 Ev.km_s Ev.beq_toList Ev.nc0 Ev.bq_t Ev.bq_f Ev.bodyN Ev.le_maxRow Int.cast_ofNat_Int IntWalk.i64_in IntWalk.u64_in IntWalk.u8_in beq_self_eq_true Bool.true_beq Bool.false_beq Bool.and_true Bool.true_and Bool.false_and Bool.and_false Bool.and_self Bool.not_true Bool.not_false Bool.not_eq_true cond_true cond_false if_true if_false and_true true_and and_self decide_true decide_false Bool.or_true Bool.true_or Bool.or_false Bool.false_or List.isEmpty List.isEmpty_nil List.size_toArray List.map List.length_map List.length_cons List.length_nil Option.map Option.bind Option.getD Option.isSome List.replicate Bool.false_eq_true implies_true false_implies forall_const Array.toList Array.isEmpty List.append List.nil_append List.cons_append List.drop_zero List.take_length List.take_succ_cons List.take_zero List.take_nil List.getElem?_map List.getElem?_cons_zero List.getElem?_cons_succ List.getElem?_nil List.append_nil eq_self Int.toNat_natCast List.length_append Nat.zero_add Nat.add_zero List.length_replicate Nat.sub_zero Option.map_some Option.map_none Int.le_refl Nat.le_refl Int.natCast_nonneg List.map_append
noncomputable def G_quanta_root (L : Nat) : Specs := [(248, s_num_Sqrt L)]
noncomputable def T_quanta_root : Table := tableOf [(212, en212)]
theorem Go_quanta_root (L : Nat) (hL : L ≤ 4611686018427387904) : ∀ g s, Ev.look (G_quanta_root L) g = some s → SpecOk Try.prog g s := (specs_cons (ok_num_Sqrt L hL) specs_nil)
theorem To_quanta_root (L : Nat) : TableOk Try.prog ((G_quanta_root L).map (·.1)) T_quanta_root := (table_cons Try.func212 (by kernel_rfl) (by kernel_rfl) table_nil)
theorem lk_quanta_root_248 (L : Nat) : Ev.look (G_quanta_root L) 248 = some (s_num_Sqrt L) := nr rfl
attribute [local go_sem] Ty.tk2 Ty.ik2 Ty.ek2 Ty.zv2 Ty.by2 Ty.so2 Ty.tk24 Ty.ik24 Ty.ek24 Ty.zv24 Ty.by24 Ty.so24 E.mk212_1000000 lk_quanta_root_248 s_num_Sqrt_run loopN loops Try.f212
theorem e_quanta_root (L : Nat) (hL : L ≤ 4611686018427387904) (a0 : Int) (res : Int) (h : p_quanta_root L a0 = some res) : evTop Try.prog (G_quanta_root L) T_quanta_root L 1 212 [.int .i64 a0] = some [.int .i64 res] := by
  revert h
  unfold p_quanta_root evTop
  simp only [List.map]
  rw [evF_s (fn := Try.f212) (msk := en212.ms) (hT := by rfl) (hb := by rfl)]
  refine bnd_i fun r1 c1 => ?_
  rintro ⟨⟩
  simp only [go_sem, Nat.reduceAdd, Nat.reduceSub, Nat.reduceMul, Nat.reduceEqDiff, Nat.reduceBEq, Nat.reduceLT, Nat.reduceLeDiff, Nat.reducePow, Int.reduceToNat, Int.reduceLT, Int.reduceLE, Int.reduceGT, Int.reduceGE, Int.reduceEq, Int.reduceNeg, Int.reduceAdd, Int.reduceSub, Int.reduceMul, ↓reduceIte, reduceCtorEq, *]
noncomputable def s_quanta_root (L : Nat) : Ev.Spec := specP (cCons (cI .i64) cNil) (fun x => p_quanta_root L x.1) (fun r => [.int .i64 r])
theorem s_quanta_root_run (L : Nat) (a0 : Int) : (s_quanta_root L).run [.int .i64 a0] = (p_quanta_root L a0).map fun r => [.int .i64 r] := specP_run (cCons (cI .i64) cNil) (fun x => p_quanta_root L x.1) (fun r => [.int .i64 r]) (a0, ())
theorem ok_quanta_root (L : Nat) (hL : L ≤ 4611686018427387904) : SpecOk Try.prog 212 (s_quanta_root L) := specP_ok mixed (Go_quanta_root L hL) (To_quanta_root L) fun x r h => ⟨L, 1, e_quanta_root L hL x.1 r h⟩
end Go.Proofs.Ytnojehmbiceceaa.P
end
section
set_option linter.unusedVariables false
set_option linter.unusedSimpArgs false
set_option maxRecDepth 100000
namespace Go.Proofs.Ytnojehmbiceceaa.P
open Go.Ev Go.IntKind Go.Proofs.Ytnojehmbiceceaa Go.Proofs.Ytnojehmbiceceaa.Ty Go.Proofs.Ytnojehmbiceceaa.E
noncomputable def p_quanta_least_l0 (L : Nat) (a0 : Int) : Nat → Int → Int → Option Int
  | 0, _, _ => none
  | tl + 1, s4, s5 => if s4 < s5 then (bnd (p_quanta_root L (i64.wrap ((i64.wrap (s4 + s5)).tdiv 2))) fun r7 => if (i64.wrap ((i64.wrap ((i64.wrap ((i64.wrap (s4 + s5)).tdiv 2)) + 1)) + (i64.wrap (3 * r7)))) ≥ a0 then (p_quanta_least_l0 L a0 tl s4 (i64.wrap ((i64.wrap (s4 + s5)).tdiv 2))) else (p_quanta_least_l0 L a0 tl (i64.wrap ((i64.wrap ((i64.wrap (s4 + s5)).tdiv 2)) + 1)) s5)) else (some s4)
noncomputable def p_quanta_least (L : Nat) (a0 : Int) : Option Int := bnd (p_quanta_least_l0 L a0 L 0 (maxI 0 a0)) fun o8 => some o8
attribute [local go_sem] Ev.putR_s Ev.putR_0 Ev.thenO_s Ev.thenO_0 Ev.seqR_n Ev.seqR_e Ev.seqR_r Ev.seqR_0 Ev.blkR_e Ev.blkR_n Ev.blkR_r Ev.blkR_0 Ev.normR_s Ev.normR_0 Ev.outR_r Ev.outR_n Ev.outR_0 Ev.retS_s Ev.retS_0 Ev.pureO_s Ev.pureO_0 Ev.topR_0 Ev.topR_t Ev.topR_t0 Ev.oneL_0 Ev.oneL_s Ev.topR_d Ev.topR_nils Ev.topR_agg Ev.topR_rs Ev.evOp_move Ev.evOp_assign Ev.evOp_pick Ev.evOp_alloc Ev.evOp_box Ev.evOp_build Ev.evOp_buildSlice Ev.evOp_load Ev.evOp_store Ev.evOp_makeMap Ev.evOp_lookup Ev.evOp_mapUpdate Ev.evOp_insert Ev.evOp_nilCheck Ev.evOp_binOp Ev.evOp_unOp Ev.evOp_convert Ev.evOp_makeFunc Ev.evOp_makeSlice Ev.evOp_slice Ev.evOp_fieldAddr Ev.evOp_field Ev.evOp_indexAddr Ev.evOp_index Ev.evOp_extract Ev.evOp_call Ev.evOp_append Ev.evOp_clear Ev.evOp_len Ev.evOp_min Ev.evOp_max Ev.condR_b Ev.condR_t Ev.evOps_nil Ev.evOps_plain Ev.evOps_guard Ev.runG_eq Ev.skipG_eq Ev.condL_tt Ev.condL_ff Ev.condL_tf Ev.condL_ft Ev.condL_u Ev.condC_t Ev.condC_f Ev.evC_skip Ev.evC_ret Ev.evC_exit Ev.evC_label Ev.evC_region Ev.evC_draw Ev.evC_seq Ev.evC_cond Ev.evC_block Ev.evC_loop Ev.fin_d Ev.fin_nils Ev.fin_agg_ Ev.fin_rs Ev.finS_s Ev.mapO_fin Ev.upd_upd Ev.argv_d Ev.argv_nils Ev.argv_agg Ev.argv_rs Ev.argv_p Ev.fk_low Ev.appendTo_nils Ev.appendTo_rs Ev.consV_d Ev.consV_agg Ev.consV_p Ev.consV_rs Ev.consV_nils Ev.consV_fn Ev.consV_und Ev.consV_jk Ev.consV_grown Ev.topR_grown Ev.len_grown Ev.consV_mp Ev.sameK_i Ev.sameK_s Ev.mget_0 Ev.mget_hit Ev.mget_miss Ev.mput_0 Ev.mput_hit Ev.mput_miss Ev.apartAll Ev.apartL Ev.apartV Ev.freeAll Ev.sel Ev.keyOfV Ev.evLookup Ev.evPut Ev.hintOk Ev.keyOk Ev.consP Ev.lookV Ev.guardV Ev.dstAt Ev.evPure Ev.evStore Ev.evBin Ev.evBinO Ev.evNil Ev.isNilC Ev.evUn Ev.evConv Ev.evSlice Ev.optI Ev.foldI Ev.capsOk Ev.noTup Ev.nth Ev.setN Ev.killAt Ev.pad Ev.V.get Ev.V.put Ev.putD Ev.newBlk Ev.upd Ev.keq Ev.empty Ev.evCall Ev.V.args Ev.argP Ev.callOf Ev.evNilP Ev.isNilP Ev.look Ev.V.view.views Ev.V.view Ev.V.toD Ev.V.toD.V.toDs Ev.V.pure.pures Ev.V.pure Ev.D.flat.flats Ev.D.flat Ev.mkAgg Ev.allD Ev.aggParts Ev.setParts Ev.setElems Ev.getPath Ev.setPath Ev.subL Ev.eqD Ev.eqD.eqDs Ev.and2 Ev.strCut Ev.evalT Ev.constT Ev.evArgs Ev.mask Ev.maskOf Ev.tableOf Ev.compT Ev.resV Ev.retV Ev.mapO Ev.frzO_n Ev.frzO_e Ev.frzO_r Ev.frzO_0 Ev.mb_z Ev.mb_0 Ev.mb_s Ev.frzL_t Ev.frzL_f Ev.frzL_0 Ev.frzT_nils Ev.frzT_rs Ev.frzT_p Ev.frzK_i Ev.keyIn_i Ev.rI_nil Ev.rI_cons Ev.rI_row Ev.rI_app Ev.r_d Ev.r_nils Ev.r_agg Ev.r_rs Ev.r_gl Ev.vw_row Ev.vw_app Ev.appO_s Ev.frzT_gl Ev.allD_gl Ev.killAt_i Ev.tkOne_i Ev.hT_agg Ev.hT_vagg Ev.hT_int Ev.hT_bool Ev.hT_str Ev.hT_sl Ev.hT_ptr Ev.hT_np Ev.hT_p Ev.hT_rs Ev.hT_mp Ev.hT_nils Ev.hT_fn Ev.hT_jk Ev.hT_gl Ev.eO_sl Ev.eO_nils Ev.eO_rs Ev.eT_sl Ev.eT_rs Ev.pL_str Ev.pL_sl Ev.pL_rs Ev.pL_nils Ev.pL_min Ev.pL_max Ev.len_glB Ev.noTup_gl Ev.rowV_len Ev.rowV_nil Ev.rowV_cons Ev.rowV_append Ev.rowV_set Ev.rowV_replicate Ev.nth_row Ev.row_take Ev.row_drop Ev.toDs_row Ev.fin_row Ev.map_row Ev.map_take_ Ev.map_drop_ Ev.Bk_i Ev.GlB_0 Ev.GlB_mk Ev.gl_nil Ev.gl_cons Ev.gl_snoc Ev.gl_setN Ev.appendTo_gl Ev.consV_gl Ev.elems_gl Ev.fin_gl Ev.view_gl Ev.argv_gl Ev.topR_gl Ev.sp_z Ev.sp_0 Ev.sp_s Ev.km_z Ev.km_0 Ev.km_s Ev.beq_toList Ev.nc0 Ev.bq_t Ev.bq_f Ev.bodyN Ev.le_maxRow Int.cast_ofNat_Int IntWalk.i64_in IntWalk.u64_in IntWalk.u8_in beq_self_eq_true Bool.true_beq Bool.false_beq Bool.and_true Bool.true_and Bool.false_and Bool.and_false Bool.and_self Bool.not_true Bool.not_false Bool.not_eq_true cond_true cond_false if_true if_false and_true true_and and_self decide_true decide_false Bool.or_true Bool.true_or Bool.or_false Bool.false_or List.isEmpty List.isEmpty_nil List.size_toArray List.map List.length_map List.length_cons List.length_nil Option.map Option.bind Option.getD Option.isSome List.replicate Bool.false_eq_true implies_true false_implies forall_const Array.toList Array.isEmpty List.append List.nil_append List.cons_append List.drop_zero List.take_length List.take_succ_cons List.take_zero List.take_nil List.getElem?_map List.getElem?_cons_zero List.getElem?_cons_succ List.getElem?_nil List.append_nil eq_self Int.toNat_natCast List.length_append Nat.zero_add Nat.add_zero List.length_replicate Nat.sub_zero Option.map_some Option.map_none Int.le_refl Nat.le_refl Int.natCast_nonneg List.map_append
noncomputable def G_quanta_least (L : Nat) : Specs := [(212, s_quanta_root L)]
noncomputable def T_quanta_least : Table := tableOf [(162, en162)]
theorem Go_quanta_least (L : Nat) (hL : L ≤ 4611686018427387904) : ∀ g s, Ev.look (G_quanta_least L) g = some s → SpecOk Try.prog g s := (specs_cons (ok_quanta_root L hL) specs_nil)
theorem To_quanta_least (L : Nat) : TableOk Try.prog ((G_quanta_least L).map (·.1)) T_quanta_least := (table_cons Try.func162 (by kernel_rfl) (by kernel_rfl) table_nil)
theorem lk_quanta_least_212 (L : Nat) : Ev.look (G_quanta_least L) 212 = some (s_quanta_root L) := nr rfl
attribute [local go_sem] Ty.tk4 Ty.ub4 Ty.ek4 Ty.zv4 Ty.by4 Ty.so4 Ty.tk24 Ty.ik24 Ty.ek24 Ty.zv24 Ty.by24 Ty.so24 E.mk162_0 E.mk162_1000001 E.mk162_1000002 E.mk162_1000000 E.fz162_0 E.lb162_0 lk_quanta_least_212 s_quanta_root_run loopN loops Try.f162
def Q0_p_quanta_least_l0 (a0 : Int) (u : Int) (z : Out) : Prop := ∃ env st, z = some (.exit 0, env, st) ∧ env = sp 27 0 [(3, .d (.int .i64 u))]
abbrev Q_p_quanta_least_l0 (a0 : Int) (o : Int) (z : Out) : Prop := Q0_p_quanta_least_l0 a0 o z
theorem l_p_quanta_least_l0 (L : Nat) (hL : L ≤ 4611686018427387904) (a0 : Int) : ∀ (n : Nat) (s4 : Int) (s5 : Int) (env : List V) (st : Store) (o : Int), mask (maskOf en162.ms 0) env = sp 27 0 [(0, .d (.int .i64 a0)), (3, .d (.int .i64 s4)), (4, .d (.int .i64 s5))] → p_quanta_least_l0 L a0 n s4 s5 = some o →
    Q_p_quanta_least_l0 a0 o (iter (evC Try.prog (G_quanta_least L) (evF Try.prog (G_quanta_least L) T_quanta_least L 0) L en162.ms 0 0 lb162_0) (maskOf en162.ms 0) n env st) := by
  intro n
  induction n with
  | zero => intro s4 s5 env st o he  h; cases h
  | succ n ih =>
    intro s4 s5 env st o he  h
    replace ih : Hold _ := ih
    rw [iter, he]
    clear he
    generalize hK : iter _ _ n = K
    rw [p_quanta_least_l0] at h
    revert h
    refine ite_i (fun c1 => ?_) (fun c1 => ?_)
    · refine bnd_i fun r7 c2 => ?_
      refine ite_i (fun c3 => ?_) (fun c3 => ?_)
      · intro h
        simp only [go_sem, Nat.reduceAdd, Nat.reduceSub, Nat.reduceMul, Nat.reduceEqDiff, Nat.reduceBEq, Nat.reduceLT, Nat.reduceLeDiff, Nat.reducePow, Int.reduceToNat, Int.reduceLT, Int.reduceLE, Int.reduceGT, Int.reduceGE, Int.reduceEq, Int.reduceNeg, Int.reduceAdd, Int.reduceSub, Int.reduceMul, ↓reduceIte, reduceCtorEq, *]
        subst hK
        refine ih  s4 (i64.wrap ((i64.wrap (s4 + s5)).tdiv 2)) _ _ _ ?_ h
        all_goals simp only [go_sem, Nat.reduceAdd, Nat.reduceSub, Nat.reduceMul, Nat.reduceEqDiff, Nat.reduceBEq, Nat.reduceLT, Nat.reduceLeDiff, Nat.reducePow, Int.reduceToNat, Int.reduceLT, Int.reduceLE, Int.reduceGT, Int.reduceGE, Int.reduceEq, Int.reduceNeg, Int.reduceAdd, Int.reduceSub, Int.reduceMul, ↓reduceIte, reduceCtorEq, *]
      · intro h
        simp only [go_sem, Nat.reduceAdd, Nat.reduceSub, Nat.reduceMul, Nat.reduceEqDiff, Nat.reduceBEq, Nat.reduceLT, Nat.reduceLeDiff, Nat.reducePow, Int.reduceToNat, Int.reduceLT, Int.reduceLE, Int.reduceGT, Int.reduceGE, Int.reduceEq, Int.reduceNeg, Int.reduceAdd, Int.reduceSub, Int.reduceMul, ↓reduceIte, reduceCtorEq, *]
        subst hK
        refine ih  (i64.wrap ((i64.wrap ((i64.wrap (s4 + s5)).tdiv 2)) + 1)) s5 _ _ _ ?_ h
        all_goals simp only [go_sem, Nat.reduceAdd, Nat.reduceSub, Nat.reduceMul, Nat.reduceEqDiff, Nat.reduceBEq, Nat.reduceLT, Nat.reduceLeDiff, Nat.reducePow, Int.reduceToNat, Int.reduceLT, Int.reduceLE, Int.reduceGT, Int.reduceGE, Int.reduceEq, Int.reduceNeg, Int.reduceAdd, Int.reduceSub, Int.reduceMul, ↓reduceIte, reduceCtorEq, *]
    · rintro ⟨⟩
      simp only [go_sem, Nat.reduceAdd, Nat.reduceSub, Nat.reduceMul, Nat.reduceEqDiff, Nat.reduceBEq, Nat.reduceLT, Nat.reduceLeDiff, Nat.reducePow, Int.reduceToNat, Int.reduceLT, Int.reduceLE, Int.reduceGT, Int.reduceGE, Int.reduceEq, Int.reduceNeg, Int.reduceAdd, Int.reduceSub, Int.reduceMul, ↓reduceIte, reduceCtorEq, *]
      refine (⟨_, _, rfl, ?_⟩ : Q0_p_quanta_least_l0 a0 _ _)
      all_goals simp only [go_sem, Nat.reduceAdd, Nat.reduceSub, Nat.reduceMul, Nat.reduceEqDiff, Nat.reduceBEq, Nat.reduceLT, Nat.reduceLeDiff, Nat.reducePow, Int.reduceToNat, Int.reduceLT, Int.reduceLE, Int.reduceGT, Int.reduceGE, Int.reduceEq, Int.reduceNeg, Int.reduceAdd, Int.reduceSub, Int.reduceMul, ↓reduceIte, reduceCtorEq, *]
theorem e_quanta_least (L : Nat) (hL : L ≤ 4611686018427387904) (a0 : Int) (res : Int) (h : p_quanta_least L a0 = some res) : evTop Try.prog (G_quanta_least L) T_quanta_least L 1 162 [.int .i64 a0] = some [.int .i64 res] := by
  revert h
  unfold p_quanta_least evTop
  simp only [List.map]
  rw [evF_s (fn := Try.f162) (msk := en162.ms) (hT := by rfl) (hb := by rfl)]
  refine bnd_i fun o8 ho1 => ?_
  intro h
  simp only [go_sem, Nat.reduceAdd, Nat.reduceSub, Nat.reduceMul, Nat.reduceEqDiff, Nat.reduceBEq, Nat.reduceLT, Nat.reduceLeDiff, Nat.reducePow, Int.reduceToNat, Int.reduceLT, Int.reduceLE, Int.reduceGT, Int.reduceGE, Int.reduceEq, Int.reduceNeg, Int.reduceAdd, Int.reduceSub, Int.reduceMul, ↓reduceIte, reduceCtorEq, *]
  generalize hz3 : iter _ _ _ _ _ = z2
  have hq4 : Q_p_quanta_least_l0 a0 o8 z2 := by
    rw [← hz3]
    refine l_p_quanta_least_l0 L hL a0 L 0 (maxI 0 a0) _ _ _  ?_ ho1
    all_goals simp only [go_sem, Nat.reduceAdd, Nat.reduceSub, Nat.reduceMul, Nat.reduceEqDiff, Nat.reduceBEq, Nat.reduceLT, Nat.reduceLeDiff, Nat.reducePow, Int.reduceToNat, Int.reduceLT, Int.reduceLE, Int.reduceGT, Int.reduceGE, Int.reduceEq, Int.reduceNeg, Int.reduceAdd, Int.reduceSub, Int.reduceMul, ↓reduceIte, reduceCtorEq, *]
  clear hz3 ho1
  obtain ⟨_, st9, rfl, rfl⟩ := hq4
  revert h
  rintro ⟨⟩
  simp only [go_sem, Nat.reduceAdd, Nat.reduceSub, Nat.reduceMul, Nat.reduceEqDiff, Nat.reduceBEq, Nat.reduceLT, Nat.reduceLeDiff, Nat.reducePow, Int.reduceToNat, Int.reduceLT, Int.reduceLE, Int.reduceGT, Int.reduceGE, Int.reduceEq, Int.reduceNeg, Int.reduceAdd, Int.reduceSub, Int.reduceMul, ↓reduceIte, reduceCtorEq, *]
noncomputable def s_quanta_least (L : Nat) : Ev.Spec := specP (cCons (cI .i64) cNil) (fun x => p_quanta_least L x.1) (fun r => [.int .i64 r])
theorem s_quanta_least_run (L : Nat) (a0 : Int) : (s_quanta_least L).run [.int .i64 a0] = (p_quanta_least L a0).map fun r => [.int .i64 r] := specP_run (cCons (cI .i64) cNil) (fun x => p_quanta_least L x.1) (fun r => [.int .i64 r]) (a0, ())
theorem ok_quanta_least (L : Nat) (hL : L ≤ 4611686018427387904) : SpecOk Try.prog 162 (s_quanta_least L) := specP_ok mixed (Go_quanta_least L hL) (To_quanta_least L) fun x r h => ⟨L, 1, e_quanta_least L hL x.1 r h⟩
end Go.Proofs.Ytnojehmbiceceaa.P
end
section
set_option linter.unusedVariables false
set_option linter.unusedSimpArgs false
set_option maxRecDepth 100000
namespace Go.Proofs.Ytnojehmbiceceaa.E
open Go.Ev
noncomputable def en163 : Entry := ⟨Try.f163, [(1000000, mb 22 0 [2])]⟩
theorem mk163_1000000 (vs : List V) : mask (maskOf en163.ms 1000000) vs = km 22 0 [2] vs := mask_mb _ _ _ _
end Go.Proofs.Ytnojehmbiceceaa.E
end
section
set_option linter.unusedVariables false
set_option linter.unusedSimpArgs false
set_option maxRecDepth 100000
namespace Go.Proofs.Ytnojehmbiceceaa.P
open Go.Ev Go.IntKind Go.Proofs.Ytnojehmbiceceaa Go.Proofs.Ytnojehmbiceceaa.Ty Go.Proofs.Ytnojehmbiceceaa.E
noncomputable def p_quanta_most (L : Nat) (a0 : Int) : Option Int := bnd (p_quanta_root L (i64.wrap (9 + (i64.wrap (4 * a0))))) fun r1 => some (i64.wrap ((minI (i64.wrap ((i64.wrap ((i64.wrap ((i64.wrap (3 + r1)).tdiv 2)) * (i64.wrap ((i64.wrap (3 + r1)).tdiv 2)))) + (i64.wrap (2 * (i64.wrap ((i64.wrap (3 + r1)).tdiv 2)))))) (i64.wrap (a0 + (i64.wrap (3 * (i64.wrap ((i64.wrap (3 + r1)).tdiv 2))))))) + 1))
attribute [local go_sem] Ev.putR_s Ev.putR_0 Ev.thenO_s Ev.thenO_0 Ev.seqR_n Ev.seqR_e Ev.seqR_r Ev.seqR_0 Ev.blkR_e Ev.blkR_n Ev.blkR_r Ev.blkR_0 Ev.normR_s Ev.normR_0 Ev.outR_r Ev.outR_n Ev.outR_0 Ev.retS_s Ev.retS_0 Ev.pureO_s Ev.pureO_0 Ev.topR_0 Ev.topR_t Ev.topR_t0 Ev.oneL_0 Ev.oneL_s Ev.topR_d Ev.topR_nils Ev.topR_agg Ev.topR_rs Ev.evOp_move Ev.evOp_assign Ev.evOp_pick Ev.evOp_alloc Ev.evOp_box Ev.evOp_build Ev.evOp_buildSlice Ev.evOp_load Ev.evOp_store Ev.evOp_makeMap Ev.evOp_lookup Ev.evOp_mapUpdate Ev.evOp_insert Ev.evOp_nilCheck Ev.evOp_binOp Ev.evOp_unOp Ev.evOp_convert Ev.evOp_makeFunc Ev.evOp_makeSlice Ev.evOp_slice Ev.evOp_fieldAddr Ev.evOp_field Ev.evOp_indexAddr Ev.evOp_index Ev.evOp_extract Ev.evOp_call Ev.evOp_append Ev.evOp_clear Ev.evOp_len Ev.evOp_min Ev.evOp_max Ev.condR_b Ev.condR_t Ev.evOps_nil Ev.evOps_plain Ev.evOps_guard Ev.runG_eq Ev.skipG_eq Ev.condL_tt Ev.condL_ff Ev.condL_tf Ev.condL_ft Ev.condL_u Ev.condC_t Ev.condC_f Ev.evC_skip Ev.evC_ret Ev.evC_exit Ev.evC_label Ev.evC_region Ev.evC_draw Ev.evC_seq Ev.evC_cond Ev.evC_block Ev.evC_loop Ev.fin_d Ev.fin_nils Ev.fin_agg_ Ev.fin_rs Ev.finS_s Ev.mapO_fin Ev.upd_upd Ev.argv_d Ev.argv_nils Ev.argv_agg Ev.argv_rs Ev.argv_p Ev.fk_low Ev.appendTo_nils Ev.appendTo_rs Ev.consV_d Ev.consV_agg Ev.consV_p Ev.consV_rs Ev.consV_nils Ev.consV_fn Ev.consV_und Ev.consV_jk Ev.consV_grown Ev.topR_grown Ev.len_grown Ev.consV_mp Ev.sameK_i Ev.sameK_s Ev.mget_0 Ev.mget_hit Ev.mget_miss Ev.mput_0 Ev.mput_hit Ev.mput_miss Ev.apartAll Ev.apartL Ev.apartV Ev.freeAll Ev.sel Ev.keyOfV Ev.evLookup Ev.evPut Ev.hintOk Ev.keyOk Ev.consP Ev.lookV Ev.guardV Ev.dstAt Ev.evPure Ev.evStore Ev.evBin Ev.evBinO Ev.evNil Ev.isNilC Ev.evUn Ev.evConv Ev.evSlice Ev.optI Ev.foldI Ev.capsOk Ev.noTup Ev.nth Ev.setN Ev.killAt Ev.pad Ev.V.get Ev.V.put Ev.putD Ev.newBlk Ev.upd Ev.keq Ev.empty Ev.evCall Ev.V.args Ev.argP Ev.callOf Ev.evNilP Ev.isNilP Ev.look Ev.V.view.views Ev.V.view Ev.V.toD Ev.V.toD.V.toDs Ev.V.pure.pures Ev.V.pure Ev.D.flat.flats Ev.D.flat Ev.mkAgg Ev.allD Ev.aggParts Ev.setParts Ev.setElems Ev.getPath Ev.setPath Ev.subL Ev.eqD Ev.eqD.eqDs Ev.and2 Ev.strCut Ev.evalT Ev.constT Ev.evArgs Ev.mask Ev.maskOf Ev.tableOf Ev.compT Ev.resV Ev.retV Ev.mapO Ev.frzO_n Ev.frzO_e Ev.frzO_r Ev.frzO_0 Ev.mb_z Ev.mb_0 Ev.mb_s Ev.frzL_t Ev.frzL_f Ev.frzL_0 Ev.frzT_nils Ev.frzT_rs Ev.frzT_p Ev.frzK_i Ev.keyIn_i Ev.rI_nil Ev.rI_cons Ev.rI_row Ev.rI_app Ev.r_d Ev.r_nils Ev.r_agg Ev.r_rs Ev.r_gl Ev.vw_row Ev.vw_app Ev.appO_s Ev.frzT_gl Ev.allD_gl Ev.killAt_i Ev.tkOne_i Ev.hT_agg Ev.hT_vagg Ev.hT_int Ev.hT_bool Ev.hT_str Ev.hT_sl Ev.hT_ptr Ev.hT_np Ev.hT_p Ev.hT_rs Ev.hT_mp Ev.hT_nils Ev.hT_fn Ev.hT_jk Ev.hT_gl Ev.eO_sl Ev.eO_nils Ev.eO_rs Ev.eT_sl Ev.eT_rs Ev.pL_str Ev.pL_sl Ev.pL_rs Ev.pL_nils Ev.pL_min Ev.pL_max Ev.len_glB Ev.noTup_gl Ev.rowV_len Ev.rowV_nil Ev.rowV_cons Ev.rowV_append Ev.rowV_set Ev.rowV_replicate Ev.nth_row Ev.row_take Ev.row_drop Ev.toDs_row Ev.fin_row Ev.map_row Ev.map_take_ Ev.map_drop_ Ev.Bk_i Ev.GlB_0 Ev.GlB_mk Ev.gl_nil Ev.gl_cons Ev.gl_snoc Ev.gl_setN Ev.appendTo_gl Ev.consV_gl Ev.elems_gl Ev.fin_gl Ev.view_gl Ev.argv_gl Ev.topR_gl Ev.sp_z Ev.sp_0 Ev.sp_s Ev.km_z Ev.km_0 Ev.km_s Ev.beq_toList Ev.nc0 Ev.bq_t Ev.bq_f Ev.bodyN Ev.le_maxRow Int.cast_ofNat_Int IntWalk.i64_in IntWalk.u64_in IntWalk.u8_in beq_self_eq_true Bool.true_beq Bool.false_beq Bool.and_true Bool.true_and Bool.false_and Bool.and_false Bool.and_self Bool.not_true Bool.not_false Bool.not_eq_true cond_true cond_false if_true if_false and_true true_and and_self decide_true decide_false Bool.or_true Bool.true_or Bool.or_false Bool.false_or List.isEmpty List.isEmpty_nil List.size_toArray List.map List.length_map List.length_cons List.length_nil Option.map Option.bind Option.getD Option.isSome List.replicate Bool.false_eq_true implies_true false_implies forall_const Array.toList Array.isEmpty List.append List.nil_append List.cons_append List.drop_zero List.take_length List.take_succ_cons List.take_zero List.take_nil List.getElem?_map List.getElem?_cons_zero List.getElem?_cons_succ List.getElem?_nil List.append_nil eq_self Int.toNat_natCast List.length_append Nat.zero_add Nat.add_zero List.length_replicate Nat.sub_zero Option.map_some Option.map_none Int.le_refl Nat.le_refl Int.natCast_nonneg List.map_append
noncomputable def G_quanta_most (L : Nat) : Specs := [(212, s_quanta_root L)]
noncomputable def T_quanta_most : Table := tableOf [(163, en163)]
theorem Go_quanta_most (L : Nat) (hL : L ≤ 4611686018427387904) : ∀ g s, Ev.look (G_quanta_most L) g = some s → SpecOk Try.prog g s := (specs_cons (ok_quanta_root L hL) specs_nil)
theorem To_quanta_most (L : Nat) : TableOk Try.prog ((G_quanta_most L).map (·.1)) T_quanta_most := (table_cons Try.func163 (by kernel_rfl) (by kernel_rfl) table_nil)
theorem lk_quanta_most_212 (L : Nat) : Ev.look (G_quanta_most L) 212 = some (s_quanta_root L) := nr rfl
attribute [local go_sem] Ty.tk24 Ty.ik24 Ty.ek24 Ty.zv24 Ty.by24 Ty.so24 E.mk163_1000000 lk_quanta_most_212 s_quanta_root_run loopN loops Try.f163
theorem e_quanta_most (L : Nat) (hL : L ≤ 4611686018427387904) (a0 : Int) (res : Int) (h : p_quanta_most L a0 = some res) : evTop Try.prog (G_quanta_most L) T_quanta_most L 1 163 [.int .i64 a0] = some [.int .i64 res] := by
  revert h
  unfold p_quanta_most evTop
  simp only [List.map]
  rw [evF_s (fn := Try.f163) (msk := en163.ms) (hT := by rfl) (hb := by rfl)]
  refine bnd_i fun r1 c1 => ?_
  rintro ⟨⟩
  simp only [go_sem, Nat.reduceAdd, Nat.reduceSub, Nat.reduceMul, Nat.reduceEqDiff, Nat.reduceBEq, Nat.reduceLT, Nat.reduceLeDiff, Nat.reducePow, Int.reduceToNat, Int.reduceLT, Int.reduceLE, Int.reduceGT, Int.reduceGE, Int.reduceEq, Int.reduceNeg, Int.reduceAdd, Int.reduceSub, Int.reduceMul, ↓reduceIte, reduceCtorEq, *]
noncomputable def s_quanta_most (L : Nat) : Ev.Spec := specP (cCons (cI .i64) cNil) (fun x => p_quanta_most L x.1) (fun r => [.int .i64 r])
theorem s_quanta_most_run (L : Nat) (a0 : Int) : (s_quanta_most L).run [.int .i64 a0] = (p_quanta_most L a0).map fun r => [.int .i64 r] := specP_run (cCons (cI .i64) cNil) (fun x => p_quanta_most L x.1) (fun r => [.int .i64 r]) (a0, ())
theorem ok_quanta_most (L : Nat) (hL : L ≤ 4611686018427387904) : SpecOk Try.prog 163 (s_quanta_most L) := specP_ok mixed (Go_quanta_most L hL) (To_quanta_most L) fun x r h => ⟨L, 1, e_quanta_most L hL x.1 r h⟩
end Go.Proofs.Ytnojehmbiceceaa.P
end
section
set_option linter.unusedVariables false
set_option linter.unusedSimpArgs false
set_option maxRecDepth 100000
namespace Go.Proofs.Ytnojehmbiceceaa.P
open Go.Ev Go.IntKind Go.Proofs.Ytnojehmbiceceaa Go.Proofs.Ytnojehmbiceceaa.Ty Go.Proofs.Ytnojehmbiceceaa.E
noncomputable def p_quanta_Means (L : Nat) (a0_0 : Int) (a0_1 : Int) (a0_2 : Bool) : Option (Int × Int × Bool) := bnd (p_bound_Norm_Quanta L a0_0 a0_1 a0_2) fun r1 => cb r1.2.2 (bnd (p_bound_None_Quanta L) fun r2 => some (r2.1, r2.2.1, r2.2.2)) (if r1.2.1 < 0 then (bnd (p_bound_None_Quanta L) fun r3 => some (r3.1, r3.2.1, r3.2.2)) else (if r1.2.1 > 34359738368 then (bnd (p_bound_None_Quanta L) fun r4 => some (r4.1, r4.2.1, r4.2.2)) else (bnd (p_quanta_least L r1.1) fun r5 => bnd (p_quanta_most L r1.2.1) fun r6 => some (r5, r6, false))))
attribute [local go_sem] Ev.putR_s Ev.putR_0 Ev.thenO_s Ev.thenO_0 Ev.seqR_n Ev.seqR_e Ev.seqR_r Ev.seqR_0 Ev.blkR_e Ev.blkR_n Ev.blkR_r Ev.blkR_0 Ev.normR_s Ev.normR_0 Ev.outR_r Ev.outR_n Ev.outR_0 Ev.retS_s Ev.retS_0 Ev.pureO_s Ev.pureO_0 Ev.topR_0 Ev.topR_t Ev.topR_t0 Ev.oneL_0 Ev.oneL_s Ev.topR_d Ev.topR_nils Ev.topR_agg Ev.topR_rs Ev.evOp_move Ev.evOp_assign Ev.evOp_pick Ev.evOp_alloc Ev.evOp_box Ev.evOp_build Ev.evOp_buildSlice Ev.evOp_load Ev.evOp_store Ev.evOp_makeMap Ev.evOp_lookup Ev.evOp_mapUpdate Ev.evOp_insert Ev.evOp_nilCheck Ev.evOp_binOp Ev.evOp_unOp Ev.evOp_convert Ev.evOp_makeFunc Ev.evOp_makeSlice Ev.evOp_slice Ev.evOp_fieldAddr Ev.evOp_field Ev.evOp_indexAddr Ev.evOp_index Ev.evOp_extract Ev.evOp_call Ev.evOp_append Ev.evOp_clear Ev.evOp_len Ev.evOp_min Ev.evOp_max Ev.condR_b Ev.condR_t Ev.evOps_nil Ev.evOps_plain Ev.evOps_guard Ev.runG_eq Ev.skipG_eq Ev.condL_tt Ev.condL_ff Ev.condL_tf Ev.condL_ft Ev.condL_u Ev.condC_t Ev.condC_f Ev.evC_skip Ev.evC_ret Ev.evC_exit Ev.evC_label Ev.evC_region Ev.evC_draw Ev.evC_seq Ev.evC_cond Ev.evC_block Ev.evC_loop Ev.fin_d Ev.fin_nils Ev.fin_agg_ Ev.fin_rs Ev.finS_s Ev.mapO_fin Ev.upd_upd Ev.argv_d Ev.argv_nils Ev.argv_agg Ev.argv_rs Ev.argv_p Ev.fk_low Ev.appendTo_nils Ev.appendTo_rs Ev.consV_d Ev.consV_agg Ev.consV_p Ev.consV_rs Ev.consV_nils Ev.consV_fn Ev.consV_und Ev.consV_jk Ev.consV_grown Ev.topR_grown Ev.len_grown Ev.consV_mp Ev.sameK_i Ev.sameK_s Ev.mget_0 Ev.mget_hit Ev.mget_miss Ev.mput_0 Ev.mput_hit Ev.mput_miss Ev.apartAll Ev.apartL Ev.apartV Ev.freeAll Ev.sel Ev.keyOfV Ev.evLookup Ev.evPut Ev.hintOk Ev.keyOk Ev.consP Ev.lookV Ev.guardV Ev.dstAt Ev.evPure Ev.evStore Ev.evBin Ev.evBinO Ev.evNil Ev.isNilC Ev.evUn Ev.evConv Ev.evSlice Ev.optI Ev.foldI Ev.capsOk Ev.noTup Ev.nth Ev.setN Ev.killAt Ev.pad Ev.V.get Ev.V.put Ev.putD Ev.newBlk Ev.upd Ev.keq Ev.empty Ev.evCall Ev.V.args Ev.argP Ev.callOf Ev.evNilP Ev.isNilP Ev.look Ev.V.view.views Ev.V.view Ev.V.toD Ev.V.toD.V.toDs Ev.V.pure.pures Ev.V.pure Ev.D.flat.flats Ev.D.flat Ev.mkAgg Ev.allD Ev.aggParts Ev.setParts Ev.setElems Ev.getPath Ev.setPath Ev.subL Ev.eqD Ev.eqD.eqDs Ev.and2 Ev.strCut Ev.evalT Ev.constT Ev.evArgs Ev.mask Ev.maskOf Ev.tableOf Ev.compT Ev.resV Ev.retV Ev.mapO Ev.frzO_n Ev.frzO_e Ev.frzO_r Ev.frzO_0 Ev.mb_z Ev.mb_0 Ev.mb_s Ev.frzL_t Ev.frzL_f Ev.frzL_0 Ev.frzT_nils Ev.frzT_rs Ev.frzT_p Ev.frzK_i Ev.keyIn_i Ev.rI_nil Ev.rI_cons Ev.rI_row Ev.rI_app Ev.r_d Ev.r_nils Ev.r_agg Ev.r_rs Ev.r_gl Ev.vw_row Ev.vw_app Ev.appO_s Ev.frzT_gl Ev.allD_gl Ev.killAt_i Ev.tkOne_i Ev.hT_agg Ev.hT_vagg Ev.hT_int Ev.hT_bool Ev.hT_str Ev.hT_sl Ev.hT_ptr Ev.hT_np Ev.hT_p Ev.hT_rs Ev.hT_mp Ev.hT_nils Ev.hT_fn Ev.hT_jk Ev.hT_gl Ev.eO_sl Ev.eO_nils Ev.eO_rs Ev.eT_sl Ev.eT_rs Ev.pL_str Ev.pL_sl Ev.pL_rs Ev.pL_nils Ev.pL_min Ev.pL_max Ev.len_glB Ev.noTup_gl Ev.rowV_len Ev.rowV_nil Ev.rowV_cons Ev.rowV_append Ev.rowV_set Ev.rowV_replicate Ev.nth_row Ev.row_take Ev.row_drop Ev.toDs_row Ev.fin_row Ev.map_row Ev.map_take_ Ev.map_drop_ Ev.Bk_i Ev.GlB_0 Ev.GlB_mk Ev.gl_nil Ev.gl_cons Ev.gl_snoc Ev.gl_setN Ev.appendTo_gl Ev.consV_gl Ev.elems_gl Ev.fin_gl Ev.view_gl Ev.argv_gl Ev.topR_gl Ev.sp_z Ev.sp_0 Ev.sp_s Ev.km_z Ev.km_0 Ev.km_s Ev.beq_toList Ev.nc0 Ev.bq_t Ev.bq_f Ev.bodyN Ev.le_maxRow Int.cast_ofNat_Int IntWalk.i64_in IntWalk.u64_in IntWalk.u8_in beq_self_eq_true Bool.true_beq Bool.false_beq Bool.and_true Bool.true_and Bool.false_and Bool.and_false Bool.and_self Bool.not_true Bool.not_false Bool.not_eq_true cond_true cond_false if_true if_false and_true true_and and_self decide_true decide_false Bool.or_true Bool.true_or Bool.or_false Bool.false_or List.isEmpty List.isEmpty_nil List.size_toArray List.map List.length_map List.length_cons List.length_nil Option.map Option.bind Option.getD Option.isSome List.replicate Bool.false_eq_true implies_true false_implies forall_const Array.toList Array.isEmpty List.append List.nil_append List.cons_append List.drop_zero List.take_length List.take_succ_cons List.take_zero List.take_nil List.getElem?_map List.getElem?_cons_zero List.getElem?_cons_succ List.getElem?_nil List.append_nil eq_self Int.toNat_natCast List.length_append Nat.zero_add Nat.add_zero List.length_replicate Nat.sub_zero Option.map_some Option.map_none Int.le_refl Nat.le_refl Int.natCast_nonneg List.map_append
noncomputable def G_quanta_Means (L : Nat) : Specs := [(75, s_bound_Norm_Quanta L), (77, s_bound_None_Quanta L), (162, s_quanta_least L), (163, s_quanta_most L)]
noncomputable def T_quanta_Means : Table := tableOf [(74, en74)]
theorem Go_quanta_Means (L : Nat) (hL : L ≤ 4611686018427387904) : ∀ g s, Ev.look (G_quanta_Means L) g = some s → SpecOk Try.prog g s := (specs_cons (ok_bound_Norm_Quanta L hL) (specs_cons (ok_bound_None_Quanta L hL) (specs_cons (ok_quanta_least L hL) (specs_cons (ok_quanta_most L hL) specs_nil))))
theorem To_quanta_Means (L : Nat) : TableOk Try.prog ((G_quanta_Means L).map (·.1)) T_quanta_Means := (table_cons Try.func74 (by kernel_rfl) (by kernel_rfl) table_nil)
theorem lk_quanta_Means_75 (L : Nat) : Ev.look (G_quanta_Means L) 75 = some (s_bound_Norm_Quanta L) := nr rfl
theorem lk_quanta_Means_77 (L : Nat) : Ev.look (G_quanta_Means L) 77 = some (s_bound_None_Quanta L) := nr rfl
theorem lk_quanta_Means_162 (L : Nat) : Ev.look (G_quanta_Means L) 162 = some (s_quanta_least L) := nr rfl
theorem lk_quanta_Means_163 (L : Nat) : Ev.look (G_quanta_Means L) 163 = some (s_quanta_most L) := nr rfl
attribute [local go_sem] Ty.tk4 Ty.ub4 Ty.ek4 Ty.zv4 Ty.by4 Ty.so4 Ty.tk24 Ty.ik24 Ty.ek24 Ty.zv24 Ty.by24 Ty.so24 Ty.tk35 Ty.ct35 Ty.ek35 Ty.zv35 Ty.by35 Ty.so35 Ty.k35_e E.dw74_4 E.kl74_4 E.nc74_4 E.mk74_1000000 lk_quanta_Means_75 lk_quanta_Means_77 lk_quanta_Means_162 lk_quanta_Means_163 s_bound_Norm_Quanta_run s_bound_None_Quanta_run s_quanta_least_run s_quanta_most_run loopN loops Try.f74
theorem e_quanta_Means (L : Nat) (hL : L ≤ 4611686018427387904) (a0_0 : Int) (a0_1 : Int) (a0_2 : Bool) (res : Int × Int × Bool) (h : p_quanta_Means L a0_0 a0_1 a0_2 = some res) : evTop Try.prog (G_quanta_Means L) T_quanta_Means L 1 74 [.agg 35 [.int .i64 a0_0, .int .i64 a0_1, .bool a0_2]] = some [.agg 35 [.int .i64 res.1, .int .i64 res.2.1, .bool res.2.2]] := by
  revert h
  unfold p_quanta_Means evTop
  simp only [List.map]
  rw [evF_s (fn := Try.f74) (msk := en74.ms) (hT := by rfl) (hb := by rfl)]
  refine bnd_i fun r1 c1 => ?_
  refine cb_i (fun c2 => ?_) (fun c2 => ?_)
  · refine bnd_i fun r2 c3 => ?_
    rintro ⟨⟩
    simp only [go_sem, Nat.reduceAdd, Nat.reduceSub, Nat.reduceMul, Nat.reduceEqDiff, Nat.reduceBEq, Nat.reduceLT, Nat.reduceLeDiff, Nat.reducePow, Int.reduceToNat, Int.reduceLT, Int.reduceLE, Int.reduceGT, Int.reduceGE, Int.reduceEq, Int.reduceNeg, Int.reduceAdd, Int.reduceSub, Int.reduceMul, ↓reduceIte, reduceCtorEq, *]
  · refine ite_i (fun c4 => ?_) (fun c4 => ?_)
    · refine bnd_i fun r3 c5 => ?_
      rintro ⟨⟩
      simp only [go_sem, Nat.reduceAdd, Nat.reduceSub, Nat.reduceMul, Nat.reduceEqDiff, Nat.reduceBEq, Nat.reduceLT, Nat.reduceLeDiff, Nat.reducePow, Int.reduceToNat, Int.reduceLT, Int.reduceLE, Int.reduceGT, Int.reduceGE, Int.reduceEq, Int.reduceNeg, Int.reduceAdd, Int.reduceSub, Int.reduceMul, ↓reduceIte, reduceCtorEq, *]
    · refine ite_i (fun c6 => ?_) (fun c6 => ?_)
      · refine bnd_i fun r4 c7 => ?_
        rintro ⟨⟩
        simp only [go_sem, Nat.reduceAdd, Nat.reduceSub, Nat.reduceMul, Nat.reduceEqDiff, Nat.reduceBEq, Nat.reduceLT, Nat.reduceLeDiff, Nat.reducePow, Int.reduceToNat, Int.reduceLT, Int.reduceLE, Int.reduceGT, Int.reduceGE, Int.reduceEq, Int.reduceNeg, Int.reduceAdd, Int.reduceSub, Int.reduceMul, ↓reduceIte, reduceCtorEq, *]
      · refine bnd_i fun r5 c8 => ?_
        refine bnd_i fun r6 c9 => ?_
        rintro ⟨⟩
        simp only [go_sem, Nat.reduceAdd, Nat.reduceSub, Nat.reduceMul, Nat.reduceEqDiff, Nat.reduceBEq, Nat.reduceLT, Nat.reduceLeDiff, Nat.reducePow, Int.reduceToNat, Int.reduceLT, Int.reduceLE, Int.reduceGT, Int.reduceGE, Int.reduceEq, Int.reduceNeg, Int.reduceAdd, Int.reduceSub, Int.reduceMul, ↓reduceIte, reduceCtorEq, *]
noncomputable def s_quanta_Means (L : Nat) : Ev.Spec := specP (cCons k35 cNil) (fun x => p_quanta_Means L x.1.1 x.1.2.1 x.1.2.2.1) (fun r => [.agg 35 [.int .i64 r.1, .int .i64 r.2.1, .bool r.2.2]])
theorem s_quanta_Means_run (L : Nat) (a0_0 : Int) (a0_1 : Int) (a0_2 : Bool) : (s_quanta_Means L).run [.agg 35 [.int .i64 a0_0, .int .i64 a0_1, .bool a0_2]] = (p_quanta_Means L a0_0 a0_1 a0_2).map fun r => [.agg 35 [.int .i64 r.1, .int .i64 r.2.1, .bool r.2.2]] := specP_run (cCons k35 cNil) (fun x => p_quanta_Means L x.1.1 x.1.2.1 x.1.2.2.1) (fun r => [.agg 35 [.int .i64 r.1, .int .i64 r.2.1, .bool r.2.2]]) ((a0_0, a0_1, a0_2, ()), ())
theorem ok_quanta_Means (L : Nat) (hL : L ≤ 4611686018427387904) : SpecOk Try.prog 74 (s_quanta_Means L) := specP_ok mixed (Go_quanta_Means L hL) (To_quanta_Means L) fun x r h => ⟨L, 1, e_quanta_Means L hL x.1.1 x.1.2.1 x.1.2.2.1 r h⟩
end Go.Proofs.Ytnojehmbiceceaa.P
end
section
set_option linter.unusedVariables false
set_option linter.unusedSimpArgs false
set_option maxRecDepth 100000
namespace Go.Proofs.Ytnojehmbiceceaa.E
open Go.Ev
noncomputable def en84 : Entry := ⟨Try.f84, [(0, mb 81 0 [1, 2, 4]), (2, mb 81 0 [1, 2, 3, 6, 7]), (1000001, mb 81 0 [1, 2, 3]), (1000002, mb 81 0 [1, 2, 4]), (1000003, mb 81 0 [2, 3, 6]), (1000004, mb 81 0 [1, 2, 3, 6, 7]), (1000000, mb 81 0 [2])]⟩
theorem mk84_0 (vs : List V) : mask (maskOf en84.ms 0) vs = km 81 0 [1, 2, 4] vs := mask_mb _ _ _ _
theorem mk84_2 (vs : List V) : mask (maskOf en84.ms 2) vs = km 81 0 [1, 2, 3, 6, 7] vs := mask_mb _ _ _ _
theorem mk84_1000001 (vs : List V) : mask (maskOf en84.ms 1000001) vs = km 81 0 [1, 2, 3] vs := mask_mb _ _ _ _
theorem mk84_1000002 (vs : List V) : mask (maskOf en84.ms 1000002) vs = km 81 0 [1, 2, 4] vs := mask_mb _ _ _ _
theorem mk84_1000003 (vs : List V) : mask (maskOf en84.ms 1000003) vs = km 81 0 [2, 3, 6] vs := mask_mb _ _ _ _
theorem mk84_1000004 (vs : List V) : mask (maskOf en84.ms 1000004) vs = km 81 0 [1, 2, 3, 6, 7] vs := mask_mb _ _ _ _
theorem mk84_1000000 (vs : List V) : mask (maskOf en84.ms 1000000) vs = km 81 0 [2] vs := mask_mb _ _ _ _
theorem fz84_0 (lv : Nat) (f : Run) : frzF en84.ms lv 0 f = f := nr rfl
theorem fz84_2 (lv : Nat) (f : Run) : frzF en84.ms lv 2 f = f := nr rfl
noncomputable def lb84_0 : Code := loopN Try.f84 0
noncomputable def lb84_2 : Code := loopN Try.f84 1
end Go.Proofs.Ytnojehmbiceceaa.E
end
section
set_option linter.unusedVariables false
set_option linter.unusedSimpArgs false
set_option maxRecDepth 100000
namespace Go.Proofs.Ytnojehmbiceceaa.E
open Go.Ev
noncomputable def en81 : Entry := ⟨Try.f81, [(1000000, mb 22 0 [2])]⟩
theorem mk81_1000000 (vs : List V) : mask (maskOf en81.ms 1000000) vs = km 22 0 [2] vs := mask_mb _ _ _ _
end Go.Proofs.Ytnojehmbiceceaa.E
end
section
set_option linter.unusedVariables false
set_option linter.unusedSimpArgs false
set_option maxRecDepth 100000
namespace Go.Proofs.Ytnojehmbiceceaa.P
open Go.Ev Go.IntKind Go.Proofs.Ytnojehmbiceceaa Go.Proofs.Ytnojehmbiceceaa.Ty Go.Proofs.Ytnojehmbiceceaa.E
def p_spyref3_Bad_Quanta (L : Nat) (a0_0 : Int) (a0_1 : Int) (a0_2 : Bool) : Option Bool := cb a0_2 (some true) (if a0_0 > a0_1 then (some true) else (if a0_0 < (-1152921504606846976) then (some true) else (some (decide (a0_1 > 1152921504606846976)))))
attribute [local go_sem] Ev.putR_s Ev.putR_0 Ev.thenO_s Ev.thenO_0 Ev.seqR_n Ev.seqR_e Ev.seqR_r Ev.seqR_0 Ev.blkR_e Ev.blkR_n Ev.blkR_r Ev.blkR_0 Ev.normR_s Ev.normR_0 Ev.outR_r Ev.outR_n Ev.outR_0 Ev.retS_s Ev.retS_0 Ev.pureO_s Ev.pureO_0 Ev.topR_0 Ev.topR_t Ev.topR_t0 Ev.oneL_0 Ev.oneL_s Ev.topR_d Ev.topR_nils Ev.topR_agg Ev.topR_rs Ev.evOp_move Ev.evOp_assign Ev.evOp_pick Ev.evOp_alloc Ev.evOp_box Ev.evOp_build Ev.evOp_buildSlice Ev.evOp_load Ev.evOp_store Ev.evOp_makeMap Ev.evOp_lookup Ev.evOp_mapUpdate Ev.evOp_insert Ev.evOp_nilCheck Ev.evOp_binOp Ev.evOp_unOp Ev.evOp_convert Ev.evOp_makeFunc Ev.evOp_makeSlice Ev.evOp_slice Ev.evOp_fieldAddr Ev.evOp_field Ev.evOp_indexAddr Ev.evOp_index Ev.evOp_extract Ev.evOp_call Ev.evOp_append Ev.evOp_clear Ev.evOp_len Ev.evOp_min Ev.evOp_max Ev.condR_b Ev.condR_t Ev.evOps_nil Ev.evOps_plain Ev.evOps_guard Ev.runG_eq Ev.skipG_eq Ev.condL_tt Ev.condL_ff Ev.condL_tf Ev.condL_ft Ev.condL_u Ev.condC_t Ev.condC_f Ev.evC_skip Ev.evC_ret Ev.evC_exit Ev.evC_label Ev.evC_region Ev.evC_draw Ev.evC_seq Ev.evC_cond Ev.evC_block Ev.evC_loop Ev.fin_d Ev.fin_nils Ev.fin_agg_ Ev.fin_rs Ev.finS_s Ev.mapO_fin Ev.upd_upd Ev.argv_d Ev.argv_nils Ev.argv_agg Ev.argv_rs Ev.argv_p Ev.fk_low Ev.appendTo_nils Ev.appendTo_rs Ev.consV_d Ev.consV_agg Ev.consV_p Ev.consV_rs Ev.consV_nils Ev.consV_fn Ev.consV_und Ev.consV_jk Ev.consV_grown Ev.topR_grown Ev.len_grown Ev.consV_mp Ev.sameK_i Ev.sameK_s Ev.mget_0 Ev.mget_hit Ev.mget_miss Ev.mput_0 Ev.mput_hit Ev.mput_miss Ev.apartAll Ev.apartL Ev.apartV Ev.freeAll Ev.sel Ev.keyOfV Ev.evLookup Ev.evPut Ev.hintOk Ev.keyOk Ev.consP Ev.lookV Ev.guardV Ev.dstAt Ev.evPure Ev.evStore Ev.evBin Ev.evBinO Ev.evNil Ev.isNilC Ev.evUn Ev.evConv Ev.evSlice Ev.optI Ev.foldI Ev.capsOk Ev.noTup Ev.nth Ev.setN Ev.killAt Ev.pad Ev.V.get Ev.V.put Ev.putD Ev.newBlk Ev.upd Ev.keq Ev.empty Ev.evCall Ev.V.args Ev.argP Ev.callOf Ev.evNilP Ev.isNilP Ev.look Ev.V.view.views Ev.V.view Ev.V.toD Ev.V.toD.V.toDs Ev.V.pure.pures Ev.V.pure Ev.D.flat.flats Ev.D.flat Ev.mkAgg Ev.allD Ev.aggParts Ev.setParts Ev.setElems Ev.getPath Ev.setPath Ev.subL Ev.eqD Ev.eqD.eqDs Ev.and2 Ev.strCut Ev.evalT Ev.constT Ev.evArgs Ev.mask Ev.maskOf Ev.tableOf Ev.compT Ev.resV Ev.retV Ev.mapO Ev.frzO_n Ev.frzO_e Ev.frzO_r Ev.frzO_0 Ev.mb_z Ev.mb_0 Ev.mb_s Ev.frzL_t Ev.frzL_f Ev.frzL_0 Ev.frzT_nils Ev.frzT_rs Ev.frzT_p Ev.frzK_i Ev.keyIn_i Ev.rI_nil Ev.rI_cons Ev.rI_row Ev.rI_app Ev.r_d Ev.r_nils Ev.r_agg Ev.r_rs Ev.r_gl Ev.vw_row Ev.vw_app Ev.appO_s Ev.frzT_gl Ev.allD_gl Ev.killAt_i Ev.tkOne_i Ev.hT_agg Ev.hT_vagg Ev.hT_int Ev.hT_bool Ev.hT_str Ev.hT_sl Ev.hT_ptr Ev.hT_np Ev.hT_p Ev.hT_rs Ev.hT_mp Ev.hT_nils Ev.hT_fn Ev.hT_jk Ev.hT_gl Ev.eO_sl Ev.eO_nils Ev.eO_rs Ev.eT_sl Ev.eT_rs Ev.pL_str Ev.pL_sl Ev.pL_rs Ev.pL_nils Ev.pL_min Ev.pL_max Ev.len_glB Ev.noTup_gl Ev.rowV_len Ev.rowV_nil Ev.rowV_cons Ev.rowV_append Ev.rowV_set Ev.rowV_replicate Ev.nth_row Ev.row_take Ev.row_drop Ev.toDs_row Ev.fin_row Ev.map_row Ev.map_take_ Ev.map_drop_ Ev.Bk_i Ev.GlB_0 Ev.GlB_mk Ev.gl_nil Ev.gl_cons Ev.gl_snoc Ev.gl_setN Ev.appendTo_gl Ev.consV_gl Ev.elems_gl Ev.fin_gl Ev.view_gl Ev.argv_gl Ev.topR_gl Ev.sp_z Ev.sp_0 Ev.sp_s Ev.km_z Ev.km_0 Ev.km_s Ev.beq_toList Ev.nc0 Ev.bq_t Ev.bq_f Ev.bodyN Ev.le_maxRow Int.cast_ofNat_Int IntWalk.i64_in IntWalk.u64_in IntWalk.u8_in beq_self_eq_true Bool.true_beq Bool.false_beq Bool.and_true Bool.true_and Bool.false_and Bool.and_false Bool.and_self Bool.not_true Bool.not_false Bool.not_eq_true cond_true cond_false if_true if_false and_true true_and and_self decide_true decide_false Bool.or_true Bool.true_or Bool.or_false Bool.false_or List.isEmpty List.isEmpty_nil List.size_toArray List.map List.length_map List.length_cons List.length_nil Option.map Option.bind Option.getD Option.isSome List.replicate Bool.false_eq_true implies_true false_implies forall_const Array.toList Array.isEmpty List.append List.nil_append List.cons_append List.drop_zero List.take_length List.take_succ_cons List.take_zero List.take_nil List.getElem?_map List.getElem?_cons_zero List.getElem?_cons_succ List.getElem?_nil List.append_nil eq_self Int.toNat_natCast List.length_append Nat.zero_add Nat.add_zero List.length_replicate Nat.sub_zero Option.map_some Option.map_none Int.le_refl Nat.le_refl Int.natCast_nonneg List.map_append
noncomputable def G_spyref3_Bad_Quanta (L : Nat) : Specs := []
noncomputable def T_spyref3_Bad_Quanta : Table := tableOf [(81, en81)]
theorem Go_spyref3_Bad_Quanta (L : Nat) (hL : L ≤ 4611686018427387904) : ∀ g s, Ev.look (G_spyref3_Bad_Quanta L) g = some s → SpecOk Try.prog g s := specs_nil
theorem To_spyref3_Bad_Quanta (L : Nat) : TableOk Try.prog ((G_spyref3_Bad_Quanta L).map (·.1)) T_spyref3_Bad_Quanta := (table_cons Try.func81 (by kernel_rfl) (by kernel_rfl) table_nil)
attribute [local go_sem] Ty.tk4 Ty.ub4 Ty.ek4 Ty.zv4 Ty.by4 Ty.so4 Ty.tk24 Ty.ik24 Ty.ek24 Ty.zv24 Ty.by24 Ty.so24 Ty.tk35 Ty.ct35 Ty.ek35 Ty.zv35 Ty.by35 Ty.so35 Ty.k35_e E.mk81_1000000 loopN loops Try.f81
theorem e_spyref3_Bad_Quanta (L : Nat) (hL : L ≤ 4611686018427387904) (a0_0 : Int) (a0_1 : Int) (a0_2 : Bool) (res : Bool) (h : p_spyref3_Bad_Quanta L a0_0 a0_1 a0_2 = some res) : evTop Try.prog (G_spyref3_Bad_Quanta L) T_spyref3_Bad_Quanta L 1 81 [.agg 35 [.int .i64 a0_0, .int .i64 a0_1, .bool a0_2]] = some [.bool res] := by
  revert h
  unfold p_spyref3_Bad_Quanta evTop
  simp only [List.map]
  rw [evF_s (fn := Try.f81) (msk := en81.ms) (hT := by rfl) (hb := by rfl)]
  refine cb_i (fun c1 => ?_) (fun c1 => ?_)
  · rintro ⟨⟩
    simp only [go_sem, Nat.reduceAdd, Nat.reduceSub, Nat.reduceMul, Nat.reduceEqDiff, Nat.reduceBEq, Nat.reduceLT, Nat.reduceLeDiff, Nat.reducePow, Int.reduceToNat, Int.reduceLT, Int.reduceLE, Int.reduceGT, Int.reduceGE, Int.reduceEq, Int.reduceNeg, Int.reduceAdd, Int.reduceSub, Int.reduceMul, ↓reduceIte, reduceCtorEq, *]
  · refine ite_i (fun c2 => ?_) (fun c2 => ?_)
    · rintro ⟨⟩
      simp only [go_sem, Nat.reduceAdd, Nat.reduceSub, Nat.reduceMul, Nat.reduceEqDiff, Nat.reduceBEq, Nat.reduceLT, Nat.reduceLeDiff, Nat.reducePow, Int.reduceToNat, Int.reduceLT, Int.reduceLE, Int.reduceGT, Int.reduceGE, Int.reduceEq, Int.reduceNeg, Int.reduceAdd, Int.reduceSub, Int.reduceMul, ↓reduceIte, reduceCtorEq, *]
    · refine ite_i (fun c3 => ?_) (fun c3 => ?_)
      · rintro ⟨⟩
        simp only [go_sem, Nat.reduceAdd, Nat.reduceSub, Nat.reduceMul, Nat.reduceEqDiff, Nat.reduceBEq, Nat.reduceLT, Nat.reduceLeDiff, Nat.reducePow, Int.reduceToNat, Int.reduceLT, Int.reduceLE, Int.reduceGT, Int.reduceGE, Int.reduceEq, Int.reduceNeg, Int.reduceAdd, Int.reduceSub, Int.reduceMul, ↓reduceIte, reduceCtorEq, *]
      · rintro ⟨⟩
        simp only [go_sem, Nat.reduceAdd, Nat.reduceSub, Nat.reduceMul, Nat.reduceEqDiff, Nat.reduceBEq, Nat.reduceLT, Nat.reduceLeDiff, Nat.reducePow, Int.reduceToNat, Int.reduceLT, Int.reduceLE, Int.reduceGT, Int.reduceGE, Int.reduceEq, Int.reduceNeg, Int.reduceAdd, Int.reduceSub, Int.reduceMul, ↓reduceIte, reduceCtorEq, *]
noncomputable def s_spyref3_Bad_Quanta (L : Nat) : Ev.Spec := specP (cCons k35 cNil) (fun x => p_spyref3_Bad_Quanta L x.1.1 x.1.2.1 x.1.2.2.1) (fun r => [.bool r])
theorem s_spyref3_Bad_Quanta_run (L : Nat) (a0_0 : Int) (a0_1 : Int) (a0_2 : Bool) : (s_spyref3_Bad_Quanta L).run [.agg 35 [.int .i64 a0_0, .int .i64 a0_1, .bool a0_2]] = (p_spyref3_Bad_Quanta L a0_0 a0_1 a0_2).map fun r => [.bool r] := specP_run (cCons k35 cNil) (fun x => p_spyref3_Bad_Quanta L x.1.1 x.1.2.1 x.1.2.2.1) (fun r => [.bool r]) ((a0_0, a0_1, a0_2, ()), ())
theorem ok_spyref3_Bad_Quanta (L : Nat) (hL : L ≤ 4611686018427387904) : SpecOk Try.prog 81 (s_spyref3_Bad_Quanta L) := specP_ok mixed (Go_spyref3_Bad_Quanta L hL) (To_spyref3_Bad_Quanta L) fun x r h => ⟨L, 1, e_spyref3_Bad_Quanta L hL x.1.1 x.1.2.1 x.1.2.2.1 r h⟩
end Go.Proofs.Ytnojehmbiceceaa.P
end
section
set_option linter.unusedVariables false
set_option linter.unusedSimpArgs false
set_option maxRecDepth 100000
namespace Go.Proofs.Ytnojehmbiceceaa.P
open Go.Ev Go.IntKind Go.Proofs.Ytnojehmbiceceaa Go.Proofs.Ytnojehmbiceceaa.Ty Go.Proofs.Ytnojehmbiceceaa.E
noncomputable def p_spyref3_Meant_l0 (L : Nat) (a0_0 : Int) : Nat → Int → Option Int
  | 0, _ => none
  | tl + 1, s5 => if (maxI (i64.wrap (s5 * s5)) (i64.wrap ((i64.wrap (a0_0 - 1)) - (i64.wrap (3 * s5))))) ≤ (i64.wrap ((i64.wrap (s5 * s5)) + (i64.wrap (2 * s5)))) then (some (maxI (i64.wrap (s5 * s5)) (i64.wrap ((i64.wrap (a0_0 - 1)) - (i64.wrap (3 * s5)))))) else (p_spyref3_Meant_l0 L a0_0 tl (i64.wrap (s5 + 1)))
noncomputable def p_spyref3_Meant_l1 (L : Nat) (a0_1 : Int) : Nat → Int → Option Int
  | 0, _ => none
  | tl + 1, s11 => if s11 ≥ 0 then (if (minI (i64.wrap ((i64.wrap (s11 * s11)) + (i64.wrap (2 * s11)))) (i64.wrap (a0_1 + (i64.wrap (3 * s11))))) ≥ (i64.wrap (s11 * s11)) then (some (minI (i64.wrap ((i64.wrap (s11 * s11)) + (i64.wrap (2 * s11)))) (i64.wrap (a0_1 + (i64.wrap (3 * s11)))))) else (p_spyref3_Meant_l1 L a0_1 tl (i64.wrap (s11 - 1)))) else (some 0)
noncomputable def p_spyref3_Meant_l2 (L : Nat) (a0_1 : Int) : Nat → Int → Option Int
  | 0, _ => none
  | tl + 1, s17 => if s17 ≥ 0 then (if (minI (i64.wrap ((i64.wrap (s17 * s17)) + (i64.wrap (2 * s17)))) (i64.wrap (a0_1 + (i64.wrap (3 * s17))))) ≥ (i64.wrap (s17 * s17)) then (some (minI (i64.wrap ((i64.wrap (s17 * s17)) + (i64.wrap (2 * s17)))) (i64.wrap (a0_1 + (i64.wrap (3 * s17)))))) else (p_spyref3_Meant_l2 L a0_1 tl (i64.wrap (s17 - 1)))) else (some 0)
noncomputable def p_spyref3_Meant (L : Nat) (a0_0 : Int) (a0_1 : Int) (a0_2 : Bool) : Option (Int × Int × Bool) := bnd (p_spyref3_Bad_Quanta L a0_0 a0_1 a0_2) fun r1 => cb r1 (some (0, 0, true)) (if a0_1 < 0 then (some (0, 0, true)) else (if a0_1 > 34359738368 then (some (0, 0, true)) else (if a0_0 > 1 then (bnd (p_spyref3_Root L a0_0 1) fun r2 => bnd (p_spyref3_Meant_l0 L a0_0 L (maxI 0 (i64.wrap (r2 - 5)))) fun o6 => bnd (p_spyref3_Root L a0_1 1) fun r8 => bnd (p_spyref3_Meant_l1 L a0_1 L (i64.wrap (r8 + 5))) fun o12 => some (o6, (i64.wrap (o12 + 1)), false)) else (bnd (p_spyref3_Root L a0_1 1) fun r14 => bnd (p_spyref3_Meant_l2 L a0_1 L (i64.wrap (r14 + 5))) fun o18 => some (0, (i64.wrap (o18 + 1)), false)))))
attribute [local go_sem] Ev.putR_s Ev.putR_0 Ev.thenO_s Ev.thenO_0 Ev.seqR_n Ev.seqR_e Ev.seqR_r Ev.seqR_0 Ev.blkR_e Ev.blkR_n Ev.blkR_r Ev.blkR_0 Ev.normR_s Ev.normR_0 Ev.outR_r Ev.outR_n Ev.outR_0 Ev.retS_s Ev.retS_0 Ev.pureO_s Ev.pureO_0 Ev.topR_0 Ev.topR_t Ev.topR_t0 Ev.oneL_0 Ev.oneL_s Ev.topR_d Ev.topR_nils Ev.topR_agg Ev.topR_rs Ev.evOp_move Ev.evOp_assign Ev.evOp_pick Ev.evOp_alloc Ev.evOp_box Ev.evOp_build Ev.evOp_buildSlice Ev.evOp_load Ev.evOp_store Ev.evOp_makeMap Ev.evOp_lookup Ev.evOp_mapUpdate Ev.evOp_insert Ev.evOp_nilCheck Ev.evOp_binOp Ev.evOp_unOp Ev.evOp_convert Ev.evOp_makeFunc Ev.evOp_makeSlice Ev.evOp_slice Ev.evOp_fieldAddr Ev.evOp_field Ev.evOp_indexAddr Ev.evOp_index Ev.evOp_extract Ev.evOp_call Ev.evOp_append Ev.evOp_clear Ev.evOp_len Ev.evOp_min Ev.evOp_max Ev.condR_b Ev.condR_t Ev.evOps_nil Ev.evOps_plain Ev.evOps_guard Ev.runG_eq Ev.skipG_eq Ev.condL_tt Ev.condL_ff Ev.condL_tf Ev.condL_ft Ev.condL_u Ev.condC_t Ev.condC_f Ev.evC_skip Ev.evC_ret Ev.evC_exit Ev.evC_label Ev.evC_region Ev.evC_draw Ev.evC_seq Ev.evC_cond Ev.evC_block Ev.evC_loop Ev.fin_d Ev.fin_nils Ev.fin_agg_ Ev.fin_rs Ev.finS_s Ev.mapO_fin Ev.upd_upd Ev.argv_d Ev.argv_nils Ev.argv_agg Ev.argv_rs Ev.argv_p Ev.fk_low Ev.appendTo_nils Ev.appendTo_rs Ev.consV_d Ev.consV_agg Ev.consV_p Ev.consV_rs Ev.consV_nils Ev.consV_fn Ev.consV_und Ev.consV_jk Ev.consV_grown Ev.topR_grown Ev.len_grown Ev.consV_mp Ev.sameK_i Ev.sameK_s Ev.mget_0 Ev.mget_hit Ev.mget_miss Ev.mput_0 Ev.mput_hit Ev.mput_miss Ev.apartAll Ev.apartL Ev.apartV Ev.freeAll Ev.sel Ev.keyOfV Ev.evLookup Ev.evPut Ev.hintOk Ev.keyOk Ev.consP Ev.lookV Ev.guardV Ev.dstAt Ev.evPure Ev.evStore Ev.evBin Ev.evBinO Ev.evNil Ev.isNilC Ev.evUn Ev.evConv Ev.evSlice Ev.optI Ev.foldI Ev.capsOk Ev.noTup Ev.nth Ev.setN Ev.killAt Ev.pad Ev.V.get Ev.V.put Ev.putD Ev.newBlk Ev.upd Ev.keq Ev.empty Ev.evCall Ev.V.args Ev.argP Ev.callOf Ev.evNilP Ev.isNilP Ev.look Ev.V.view.views Ev.V.view Ev.V.toD Ev.V.toD.V.toDs Ev.V.pure.pures Ev.V.pure Ev.D.flat.flats Ev.D.flat Ev.mkAgg Ev.allD Ev.aggParts Ev.setParts Ev.setElems Ev.getPath Ev.setPath Ev.subL Ev.eqD Ev.eqD.eqDs Ev.and2 Ev.strCut Ev.evalT Ev.constT Ev.evArgs Ev.mask Ev.maskOf Ev.tableOf Ev.compT Ev.resV Ev.retV Ev.mapO Ev.frzO_n Ev.frzO_e Ev.frzO_r Ev.frzO_0 Ev.mb_z Ev.mb_0 Ev.mb_s Ev.frzL_t Ev.frzL_f Ev.frzL_0 Ev.frzT_nils Ev.frzT_rs Ev.frzT_p Ev.frzK_i Ev.keyIn_i Ev.rI_nil Ev.rI_cons Ev.rI_row Ev.rI_app Ev.r_d Ev.r_nils Ev.r_agg Ev.r_rs Ev.r_gl Ev.vw_row Ev.vw_app Ev.appO_s Ev.frzT_gl Ev.allD_gl Ev.killAt_i Ev.tkOne_i Ev.hT_agg Ev.hT_vagg Ev.hT_int Ev.hT_bool Ev.hT_str Ev.hT_sl Ev.hT_ptr Ev.hT_np Ev.hT_p Ev.hT_rs Ev.hT_mp Ev.hT_nils Ev.hT_fn Ev.hT_jk Ev.hT_gl Ev.eO_sl Ev.eO_nils Ev.eO_rs Ev.eT_sl Ev.eT_rs Ev.pL_str Ev.pL_sl Ev.pL_rs Ev.pL_nils Ev.pL_min Ev.pL_max Ev.len_glB Ev.noTup_gl Ev.rowV_len Ev.rowV_nil Ev.rowV_cons Ev.rowV_append Ev.rowV_set Ev.rowV_replicate Ev.nth_row Ev.row_take Ev.row_drop Ev.toDs_row Ev.fin_row Ev.map_row Ev.map_take_ Ev.map_drop_ Ev.Bk_i Ev.GlB_0 Ev.GlB_mk Ev.gl_nil Ev.gl_cons Ev.gl_snoc Ev.gl_setN Ev.appendTo_gl Ev.consV_gl Ev.elems_gl Ev.fin_gl Ev.view_gl Ev.argv_gl Ev.topR_gl Ev.sp_z Ev.sp_0 Ev.sp_s Ev.km_z Ev.km_0 Ev.km_s Ev.beq_toList Ev.nc0 Ev.bq_t Ev.bq_f Ev.bodyN Ev.le_maxRow Int.cast_ofNat_Int IntWalk.i64_in IntWalk.u64_in IntWalk.u8_in beq_self_eq_true Bool.true_beq Bool.false_beq Bool.and_true Bool.true_and Bool.false_and Bool.and_false Bool.and_self Bool.not_true Bool.not_false Bool.not_eq_true cond_true cond_false if_true if_false and_true true_and and_self decide_true decide_false Bool.or_true Bool.true_or Bool.or_false Bool.false_or List.isEmpty List.isEmpty_nil List.size_toArray List.map List.length_map List.length_cons List.length_nil Option.map Option.bind Option.getD Option.isSome List.replicate Bool.false_eq_true implies_true false_implies forall_const Array.toList Array.isEmpty List.append List.nil_append List.cons_append List.drop_zero List.take_length List.take_succ_cons List.take_zero List.take_nil List.getElem?_map List.getElem?_cons_zero List.getElem?_cons_succ List.getElem?_nil List.append_nil eq_self Int.toNat_natCast List.length_append Nat.zero_add Nat.add_zero List.length_replicate Nat.sub_zero Option.map_some Option.map_none Int.le_refl Nat.le_refl Int.natCast_nonneg List.map_append
noncomputable def G_spyref3_Meant (L : Nat) : Specs := [(81, s_spyref3_Bad_Quanta L), (118, s_spyref3_Root L)]
noncomputable def T_spyref3_Meant : Table := tableOf [(84, en84)]
theorem Go_spyref3_Meant (L : Nat) (hL : L ≤ 4611686018427387904) : ∀ g s, Ev.look (G_spyref3_Meant L) g = some s → SpecOk Try.prog g s := (specs_cons (ok_spyref3_Bad_Quanta L hL) (specs_cons (ok_spyref3_Root L hL) specs_nil))
theorem To_spyref3_Meant (L : Nat) : TableOk Try.prog ((G_spyref3_Meant L).map (·.1)) T_spyref3_Meant := (table_cons Try.func84 (by kernel_rfl) (by kernel_rfl) table_nil)
theorem lk_spyref3_Meant_81 (L : Nat) : Ev.look (G_spyref3_Meant L) 81 = some (s_spyref3_Bad_Quanta L) := nr rfl
theorem lk_spyref3_Meant_118 (L : Nat) : Ev.look (G_spyref3_Meant L) 118 = some (s_spyref3_Root L) := nr rfl
attribute [local go_sem] Ty.tk2 Ty.ik2 Ty.ek2 Ty.zv2 Ty.by2 Ty.so2 Ty.tk4 Ty.ub4 Ty.ek4 Ty.zv4 Ty.by4 Ty.so4 Ty.tk24 Ty.ik24 Ty.ek24 Ty.zv24 Ty.by24 Ty.so24 Ty.tk35 Ty.ct35 Ty.ek35 Ty.zv35 Ty.by35 Ty.so35 Ty.k35_e E.mk84_0 E.mk84_2 E.mk84_1000001 E.mk84_1000002 E.mk84_1000003 E.mk84_1000004 E.mk84_1000000 E.fz84_0 E.fz84_2 E.lb84_0 E.lb84_2 lk_spyref3_Meant_81 lk_spyref3_Meant_118 s_spyref3_Bad_Quanta_run s_spyref3_Root_run loopN loops Try.f84
def Q0_p_spyref3_Meant_l0 (a0_0 : Int) (a0_1 : Int) (a0_2 : Bool) (u : Int) (z : Out) : Prop := ∃ env st, z = some (.exit 0, env, st) ∧ env = sp 81 0 [(1, .p (0, 1) (st (0, 1)).ver 0 []), (2, .p (0, 2) (st (0, 2)).ver 0 []), (3, .d (.int .i64 u))] ∧ Bk (st (0, 1)) 35 [.d (.agg 35 [.int .i64 a0_0, .int .i64 a0_1, .bool a0_2])] ∧ Bk (st (0, 2)) 35 [.d (.agg 35 [.int .i64 0, .int .i64 0, .bool false])]
abbrev Q_p_spyref3_Meant_l0 (a0_0 : Int) (a0_1 : Int) (a0_2 : Bool) (o : Int) (z : Out) : Prop := Q0_p_spyref3_Meant_l0 a0_0 a0_1 a0_2 o z
theorem l_p_spyref3_Meant_l0 (L : Nat) (hL : L ≤ 4611686018427387904) (a0_0 : Int) (a0_1 : Int) (a0_2 : Bool) : ∀ (n : Nat) (s5 : Int) (env : List V) (st : Store) (o : Int), mask (maskOf en84.ms 0) env = sp 81 0 [(1, .p (0, 1) (st (0, 1)).ver 0 []), (2, .p (0, 2) (st (0, 2)).ver 0 []), (4, .d (.int .i64 s5))] → Bk (st (0, 1)) 35 [.d (.agg 35 [.int .i64 a0_0, .int .i64 a0_1, .bool a0_2])] → Bk (st (0, 2)) 35 [.d (.agg 35 [.int .i64 0, .int .i64 0, .bool false])] → p_spyref3_Meant_l0 L a0_0 n s5 = some o →
    Q_p_spyref3_Meant_l0 a0_0 a0_1 a0_2 o (iter (evC Try.prog (G_spyref3_Meant L) (evF Try.prog (G_spyref3_Meant L) T_spyref3_Meant L 0) L en84.ms 0 0 lb84_0) (maskOf en84.ms 0) n env st) := by
  intro n
  induction n with
  | zero => intro s5 env st o he hb0 hb1 h; cases h
  | succ n ih =>
    intro s5 env st o he hb0 hb1 h
    replace ih : Hold _ := ih
    obtain ⟨be0, bv0, bl0⟩ := hb0
    obtain ⟨be1, bv1, bl1⟩ := hb1
    rw [iter, he]
    clear he
    generalize hK : iter _ _ n = K
    rw [p_spyref3_Meant_l0] at h
    revert h
    refine ite_i (fun c1 => ?_) (fun c1 => ?_)
    · rintro ⟨⟩
      simp only [go_sem, Nat.reduceAdd, Nat.reduceSub, Nat.reduceMul, Nat.reduceEqDiff, Nat.reduceBEq, Nat.reduceLT, Nat.reduceLeDiff, Nat.reducePow, Int.reduceToNat, Int.reduceLT, Int.reduceLE, Int.reduceGT, Int.reduceGE, Int.reduceEq, Int.reduceNeg, Int.reduceAdd, Int.reduceSub, Int.reduceMul, ↓reduceIte, reduceCtorEq, *]
      refine (⟨_, _, rfl, ?_, ?_, ?_⟩ : Q0_p_spyref3_Meant_l0 a0_0 a0_1 a0_2 _ _)
      all_goals simp only [go_sem, Nat.reduceAdd, Nat.reduceSub, Nat.reduceMul, Nat.reduceEqDiff, Nat.reduceBEq, Nat.reduceLT, Nat.reduceLeDiff, Nat.reducePow, Int.reduceToNat, Int.reduceLT, Int.reduceLE, Int.reduceGT, Int.reduceGE, Int.reduceEq, Int.reduceNeg, Int.reduceAdd, Int.reduceSub, Int.reduceMul, ↓reduceIte, reduceCtorEq, *]
    · intro h
      simp only [go_sem, Nat.reduceAdd, Nat.reduceSub, Nat.reduceMul, Nat.reduceEqDiff, Nat.reduceBEq, Nat.reduceLT, Nat.reduceLeDiff, Nat.reducePow, Int.reduceToNat, Int.reduceLT, Int.reduceLE, Int.reduceGT, Int.reduceGE, Int.reduceEq, Int.reduceNeg, Int.reduceAdd, Int.reduceSub, Int.reduceMul, ↓reduceIte, reduceCtorEq, *]
      subst hK
      refine ih  (i64.wrap (s5 + 1)) _ _ _ ?_ ?_ ?_ h
      all_goals simp only [go_sem, Nat.reduceAdd, Nat.reduceSub, Nat.reduceMul, Nat.reduceEqDiff, Nat.reduceBEq, Nat.reduceLT, Nat.reduceLeDiff, Nat.reducePow, Int.reduceToNat, Int.reduceLT, Int.reduceLE, Int.reduceGT, Int.reduceGE, Int.reduceEq, Int.reduceNeg, Int.reduceAdd, Int.reduceSub, Int.reduceMul, ↓reduceIte, reduceCtorEq, *]
def Q0_p_spyref3_Meant_l1 (o6 : Int) (a0_0 : Int) (a0_1 : Int) (a0_2 : Bool) (u : Int) (z : Out) : Prop := ∃ env st, z = some (.exit 2, env, st) ∧ env = sp 81 0 [(2, .p (0, 2) (st (0, 2)).ver 0 []), (3, .d (.int .i64 o6)), (6, .d (.int .i64 u))] ∧ Bk (st (0, 2)) 35 [.d (.agg 35 [.int .i64 0, .int .i64 0, .bool false])]
abbrev Q_p_spyref3_Meant_l1 (o6 : Int) (a0_0 : Int) (a0_1 : Int) (a0_2 : Bool) (o : Int) (z : Out) : Prop := Q0_p_spyref3_Meant_l1 o6 a0_0 a0_1 a0_2 o z
theorem l_p_spyref3_Meant_l1 (L : Nat) (hL : L ≤ 4611686018427387904) (o6 : Int) (a0_0 : Int) (a0_1 : Int) (a0_2 : Bool) : ∀ (n : Nat) (s11 : Int) (env : List V) (st : Store) (o : Int), mask (maskOf en84.ms 2) env = sp 81 0 [(1, .p (0, 1) (st (0, 1)).ver 0 []), (2, .p (0, 2) (st (0, 2)).ver 0 []), (3, .d (.int .i64 o6)), (6, .d (.int .i64 0)), (7, .d (.int .i64 s11))] → Bk (st (0, 1)) 35 [.d (.agg 35 [.int .i64 a0_0, .int .i64 a0_1, .bool a0_2])] → Bk (st (0, 2)) 35 [.d (.agg 35 [.int .i64 0, .int .i64 0, .bool false])] → p_spyref3_Meant_l1 L a0_1 n s11 = some o →
    Q_p_spyref3_Meant_l1 o6 a0_0 a0_1 a0_2 o (iter (evC Try.prog (G_spyref3_Meant L) (evF Try.prog (G_spyref3_Meant L) T_spyref3_Meant L 0) L en84.ms 0 2 lb84_2) (maskOf en84.ms 2) n env st) := by
  intro n
  induction n with
  | zero => intro s11 env st o he hb0 hb1 h; cases h
  | succ n ih =>
    intro s11 env st o he hb0 hb1 h
    replace ih : Hold _ := ih
    obtain ⟨be0, bv0, bl0⟩ := hb0
    obtain ⟨be1, bv1, bl1⟩ := hb1
    rw [iter, he]
    clear he
    generalize hK : iter _ _ n = K
    rw [p_spyref3_Meant_l1] at h
    revert h
    refine ite_i (fun c1 => ?_) (fun c1 => ?_)
    · refine ite_i (fun c2 => ?_) (fun c2 => ?_)
      · rintro ⟨⟩
        simp only [go_sem, Nat.reduceAdd, Nat.reduceSub, Nat.reduceMul, Nat.reduceEqDiff, Nat.reduceBEq, Nat.reduceLT, Nat.reduceLeDiff, Nat.reducePow, Int.reduceToNat, Int.reduceLT, Int.reduceLE, Int.reduceGT, Int.reduceGE, Int.reduceEq, Int.reduceNeg, Int.reduceAdd, Int.reduceSub, Int.reduceMul, ↓reduceIte, reduceCtorEq, *]
        refine (⟨_, _, rfl, ?_, ?_⟩ : Q0_p_spyref3_Meant_l1 o6 a0_0 a0_1 a0_2 _ _)
        all_goals simp only [go_sem, Nat.reduceAdd, Nat.reduceSub, Nat.reduceMul, Nat.reduceEqDiff, Nat.reduceBEq, Nat.reduceLT, Nat.reduceLeDiff, Nat.reducePow, Int.reduceToNat, Int.reduceLT, Int.reduceLE, Int.reduceGT, Int.reduceGE, Int.reduceEq, Int.reduceNeg, Int.reduceAdd, Int.reduceSub, Int.reduceMul, ↓reduceIte, reduceCtorEq, *]
      · intro h
        simp only [go_sem, Nat.reduceAdd, Nat.reduceSub, Nat.reduceMul, Nat.reduceEqDiff, Nat.reduceBEq, Nat.reduceLT, Nat.reduceLeDiff, Nat.reducePow, Int.reduceToNat, Int.reduceLT, Int.reduceLE, Int.reduceGT, Int.reduceGE, Int.reduceEq, Int.reduceNeg, Int.reduceAdd, Int.reduceSub, Int.reduceMul, ↓reduceIte, reduceCtorEq, *]
        subst hK
        refine ih  (i64.wrap (s11 - 1)) _ _ _ ?_ ?_ ?_ h
        all_goals simp only [go_sem, Nat.reduceAdd, Nat.reduceSub, Nat.reduceMul, Nat.reduceEqDiff, Nat.reduceBEq, Nat.reduceLT, Nat.reduceLeDiff, Nat.reducePow, Int.reduceToNat, Int.reduceLT, Int.reduceLE, Int.reduceGT, Int.reduceGE, Int.reduceEq, Int.reduceNeg, Int.reduceAdd, Int.reduceSub, Int.reduceMul, ↓reduceIte, reduceCtorEq, *]
    · rintro ⟨⟩
      simp only [go_sem, Nat.reduceAdd, Nat.reduceSub, Nat.reduceMul, Nat.reduceEqDiff, Nat.reduceBEq, Nat.reduceLT, Nat.reduceLeDiff, Nat.reducePow, Int.reduceToNat, Int.reduceLT, Int.reduceLE, Int.reduceGT, Int.reduceGE, Int.reduceEq, Int.reduceNeg, Int.reduceAdd, Int.reduceSub, Int.reduceMul, ↓reduceIte, reduceCtorEq, *]
      refine (⟨_, _, rfl, ?_, ?_⟩ : Q0_p_spyref3_Meant_l1 o6 a0_0 a0_1 a0_2 _ _)
      all_goals simp only [go_sem, Nat.reduceAdd, Nat.reduceSub, Nat.reduceMul, Nat.reduceEqDiff, Nat.reduceBEq, Nat.reduceLT, Nat.reduceLeDiff, Nat.reducePow, Int.reduceToNat, Int.reduceLT, Int.reduceLE, Int.reduceGT, Int.reduceGE, Int.reduceEq, Int.reduceNeg, Int.reduceAdd, Int.reduceSub, Int.reduceMul, ↓reduceIte, reduceCtorEq, *]
def Q0_p_spyref3_Meant_l2 (a0_0 : Int) (a0_1 : Int) (a0_2 : Bool) (u : Int) (z : Out) : Prop := ∃ env st, z = some (.exit 2, env, st) ∧ env = sp 81 0 [(2, .p (0, 2) (st (0, 2)).ver 0 []), (3, .d (.int .i64 0)), (6, .d (.int .i64 u))] ∧ Bk (st (0, 2)) 35 [.d (.agg 35 [.int .i64 0, .int .i64 0, .bool false])]
abbrev Q_p_spyref3_Meant_l2 (a0_0 : Int) (a0_1 : Int) (a0_2 : Bool) (o : Int) (z : Out) : Prop := Q0_p_spyref3_Meant_l2 a0_0 a0_1 a0_2 o z
theorem l_p_spyref3_Meant_l2 (L : Nat) (hL : L ≤ 4611686018427387904) (a0_0 : Int) (a0_1 : Int) (a0_2 : Bool) : ∀ (n : Nat) (s17 : Int) (env : List V) (st : Store) (o : Int), mask (maskOf en84.ms 2) env = sp 81 0 [(1, .p (0, 1) (st (0, 1)).ver 0 []), (2, .p (0, 2) (st (0, 2)).ver 0 []), (3, .d (.int .i64 0)), (6, .d (.int .i64 0)), (7, .d (.int .i64 s17))] → Bk (st (0, 1)) 35 [.d (.agg 35 [.int .i64 a0_0, .int .i64 a0_1, .bool a0_2])] → Bk (st (0, 2)) 35 [.d (.agg 35 [.int .i64 0, .int .i64 0, .bool false])] → p_spyref3_Meant_l2 L a0_1 n s17 = some o →
    Q_p_spyref3_Meant_l2 a0_0 a0_1 a0_2 o (iter (evC Try.prog (G_spyref3_Meant L) (evF Try.prog (G_spyref3_Meant L) T_spyref3_Meant L 0) L en84.ms 0 2 lb84_2) (maskOf en84.ms 2) n env st) := by
  intro n
  induction n with
  | zero => intro s17 env st o he hb0 hb1 h; cases h
  | succ n ih =>
    intro s17 env st o he hb0 hb1 h
    replace ih : Hold _ := ih
    obtain ⟨be0, bv0, bl0⟩ := hb0
    obtain ⟨be1, bv1, bl1⟩ := hb1
    rw [iter, he]
    clear he
    generalize hK : iter _ _ n = K
    rw [p_spyref3_Meant_l2] at h
    revert h
    refine ite_i (fun c1 => ?_) (fun c1 => ?_)
    · refine ite_i (fun c2 => ?_) (fun c2 => ?_)
      · rintro ⟨⟩
        simp only [go_sem, Nat.reduceAdd, Nat.reduceSub, Nat.reduceMul, Nat.reduceEqDiff, Nat.reduceBEq, Nat.reduceLT, Nat.reduceLeDiff, Nat.reducePow, Int.reduceToNat, Int.reduceLT, Int.reduceLE, Int.reduceGT, Int.reduceGE, Int.reduceEq, Int.reduceNeg, Int.reduceAdd, Int.reduceSub, Int.reduceMul, ↓reduceIte, reduceCtorEq, *]
        refine (⟨_, _, rfl, ?_, ?_⟩ : Q0_p_spyref3_Meant_l2 a0_0 a0_1 a0_2 _ _)
        all_goals simp only [go_sem, Nat.reduceAdd, Nat.reduceSub, Nat.reduceMul, Nat.reduceEqDiff, Nat.reduceBEq, Nat.reduceLT, Nat.reduceLeDiff, Nat.reducePow, Int.reduceToNat, Int.reduceLT, Int.reduceLE, Int.reduceGT, Int.reduceGE, Int.reduceEq, Int.reduceNeg, Int.reduceAdd, Int.reduceSub, Int.reduceMul, ↓reduceIte, reduceCtorEq, *]
      · intro h
        simp only [go_sem, Nat.reduceAdd, Nat.reduceSub, Nat.reduceMul, Nat.reduceEqDiff, Nat.reduceBEq, Nat.reduceLT, Nat.reduceLeDiff, Nat.reducePow, Int.reduceToNat, Int.reduceLT, Int.reduceLE, Int.reduceGT, Int.reduceGE, Int.reduceEq, Int.reduceNeg, Int.reduceAdd, Int.reduceSub, Int.reduceMul, ↓reduceIte, reduceCtorEq, *]
        subst hK
        refine ih  (i64.wrap (s17 - 1)) _ _ _ ?_ ?_ ?_ h
        all_goals simp only [go_sem, Nat.reduceAdd, Nat.reduceSub, Nat.reduceMul, Nat.reduceEqDiff, Nat.reduceBEq, Nat.reduceLT, Nat.reduceLeDiff, Nat.reducePow, Int.reduceToNat, Int.reduceLT, Int.reduceLE, Int.reduceGT, Int.reduceGE, Int.reduceEq, Int.reduceNeg, Int.reduceAdd, Int.reduceSub, Int.reduceMul, ↓reduceIte, reduceCtorEq, *]
    · rintro ⟨⟩
      simp only [go_sem, Nat.reduceAdd, Nat.reduceSub, Nat.reduceMul, Nat.reduceEqDiff, Nat.reduceBEq, Nat.reduceLT, Nat.reduceLeDiff, Nat.reducePow, Int.reduceToNat, Int.reduceLT, Int.reduceLE, Int.reduceGT, Int.reduceGE, Int.reduceEq, Int.reduceNeg, Int.reduceAdd, Int.reduceSub, Int.reduceMul, ↓reduceIte, reduceCtorEq, *]
      refine (⟨_, _, rfl, ?_, ?_⟩ : Q0_p_spyref3_Meant_l2 a0_0 a0_1 a0_2 _ _)
      all_goals simp only [go_sem, Nat.reduceAdd, Nat.reduceSub, Nat.reduceMul, Nat.reduceEqDiff, Nat.reduceBEq, Nat.reduceLT, Nat.reduceLeDiff, Nat.reducePow, Int.reduceToNat, Int.reduceLT, Int.reduceLE, Int.reduceGT, Int.reduceGE, Int.reduceEq, Int.reduceNeg, Int.reduceAdd, Int.reduceSub, Int.reduceMul, ↓reduceIte, reduceCtorEq, *]
theorem e_spyref3_Meant (L : Nat) (hL : L ≤ 4611686018427387904) (a0_0 : Int) (a0_1 : Int) (a0_2 : Bool) (res : Int × Int × Bool) (h : p_spyref3_Meant L a0_0 a0_1 a0_2 = some res) : evTop Try.prog (G_spyref3_Meant L) T_spyref3_Meant L 1 84 [.agg 35 [.int .i64 a0_0, .int .i64 a0_1, .bool a0_2]] = some [.agg 35 [.int .i64 res.1, .int .i64 res.2.1, .bool res.2.2]] := by
  revert h
  unfold p_spyref3_Meant evTop
  simp only [List.map]
  rw [evF_s (fn := Try.f84) (msk := en84.ms) (hT := by rfl) (hb := by rfl)]
  refine bnd_i fun r1 c1 => ?_
  refine cb_i (fun c2 => ?_) (fun c2 => ?_)
  · rintro ⟨⟩
    simp only [go_sem, Nat.reduceAdd, Nat.reduceSub, Nat.reduceMul, Nat.reduceEqDiff, Nat.reduceBEq, Nat.reduceLT, Nat.reduceLeDiff, Nat.reducePow, Int.reduceToNat, Int.reduceLT, Int.reduceLE, Int.reduceGT, Int.reduceGE, Int.reduceEq, Int.reduceNeg, Int.reduceAdd, Int.reduceSub, Int.reduceMul, ↓reduceIte, reduceCtorEq, *]
  · refine ite_i (fun c3 => ?_) (fun c3 => ?_)
    · rintro ⟨⟩
      simp only [go_sem, Nat.reduceAdd, Nat.reduceSub, Nat.reduceMul, Nat.reduceEqDiff, Nat.reduceBEq, Nat.reduceLT, Nat.reduceLeDiff, Nat.reducePow, Int.reduceToNat, Int.reduceLT, Int.reduceLE, Int.reduceGT, Int.reduceGE, Int.reduceEq, Int.reduceNeg, Int.reduceAdd, Int.reduceSub, Int.reduceMul, ↓reduceIte, reduceCtorEq, *]
    · refine ite_i (fun c4 => ?_) (fun c4 => ?_)
      · rintro ⟨⟩
        simp only [go_sem, Nat.reduceAdd, Nat.reduceSub, Nat.reduceMul, Nat.reduceEqDiff, Nat.reduceBEq, Nat.reduceLT, Nat.reduceLeDiff, Nat.reducePow, Int.reduceToNat, Int.reduceLT, Int.reduceLE, Int.reduceGT, Int.reduceGE, Int.reduceEq, Int.reduceNeg, Int.reduceAdd, Int.reduceSub, Int.reduceMul, ↓reduceIte, reduceCtorEq, *]
      · refine ite_i (fun c5 => ?_) (fun c5 => ?_)
        · refine bnd_i fun r2 c6 => ?_
          refine bnd_i fun o6 ho7 => ?_
          intro h
          simp only [go_sem, Nat.reduceAdd, Nat.reduceSub, Nat.reduceMul, Nat.reduceEqDiff, Nat.reduceBEq, Nat.reduceLT, Nat.reduceLeDiff, Nat.reducePow, Int.reduceToNat, Int.reduceLT, Int.reduceLE, Int.reduceGT, Int.reduceGE, Int.reduceEq, Int.reduceNeg, Int.reduceAdd, Int.reduceSub, Int.reduceMul, ↓reduceIte, reduceCtorEq, *]
          generalize hz9 : iter _ _ _ _ _ = z8
          have hq10 : Q_p_spyref3_Meant_l0 a0_0 a0_1 a0_2 o6 z8 := by
            rw [← hz9]
            refine l_p_spyref3_Meant_l0 L hL a0_0 a0_1 a0_2 L (maxI 0 (i64.wrap (r2 - 5))) _ _ _  ?_ ?_ ?_ ho7
            all_goals simp only [go_sem, Nat.reduceAdd, Nat.reduceSub, Nat.reduceMul, Nat.reduceEqDiff, Nat.reduceBEq, Nat.reduceLT, Nat.reduceLeDiff, Nat.reducePow, Int.reduceToNat, Int.reduceLT, Int.reduceLE, Int.reduceGT, Int.reduceGE, Int.reduceEq, Int.reduceNeg, Int.reduceAdd, Int.reduceSub, Int.reduceMul, ↓reduceIte, reduceCtorEq, *]
          clear hz9 ho7
          obtain ⟨_, st7, rfl, rfl, ⟨k111, k112, k113⟩, ⟨k121, k122, k123⟩⟩ := hq10
          revert h
          refine bnd_i fun r8 c13 => ?_
          refine bnd_i fun o12 ho14 => ?_
          intro h
          simp only [go_sem, Nat.reduceAdd, Nat.reduceSub, Nat.reduceMul, Nat.reduceEqDiff, Nat.reduceBEq, Nat.reduceLT, Nat.reduceLeDiff, Nat.reducePow, Int.reduceToNat, Int.reduceLT, Int.reduceLE, Int.reduceGT, Int.reduceGE, Int.reduceEq, Int.reduceNeg, Int.reduceAdd, Int.reduceSub, Int.reduceMul, ↓reduceIte, reduceCtorEq, *]
          generalize hz16 : iter _ _ _ _ _ = z15
          have hq17 : Q_p_spyref3_Meant_l1 o6 a0_0 a0_1 a0_2 o12 z15 := by
            rw [← hz16]
            refine l_p_spyref3_Meant_l1 L hL o6 a0_0 a0_1 a0_2 L (i64.wrap (r8 + 5)) _ _ _  ?_ ?_ ?_ ho14
            all_goals simp only [go_sem, Nat.reduceAdd, Nat.reduceSub, Nat.reduceMul, Nat.reduceEqDiff, Nat.reduceBEq, Nat.reduceLT, Nat.reduceLeDiff, Nat.reducePow, Int.reduceToNat, Int.reduceLT, Int.reduceLE, Int.reduceGT, Int.reduceGE, Int.reduceEq, Int.reduceNeg, Int.reduceAdd, Int.reduceSub, Int.reduceMul, ↓reduceIte, reduceCtorEq, *]
          clear hz16 ho14
          obtain ⟨_, st13, rfl, rfl, ⟨k181, k182, k183⟩⟩ := hq17
          revert h
          rintro ⟨⟩
          simp only [go_sem, Nat.reduceAdd, Nat.reduceSub, Nat.reduceMul, Nat.reduceEqDiff, Nat.reduceBEq, Nat.reduceLT, Nat.reduceLeDiff, Nat.reducePow, Int.reduceToNat, Int.reduceLT, Int.reduceLE, Int.reduceGT, Int.reduceGE, Int.reduceEq, Int.reduceNeg, Int.reduceAdd, Int.reduceSub, Int.reduceMul, ↓reduceIte, reduceCtorEq, *]
        · refine bnd_i fun r14 c19 => ?_
          refine bnd_i fun o18 ho20 => ?_
          intro h
          simp only [go_sem, Nat.reduceAdd, Nat.reduceSub, Nat.reduceMul, Nat.reduceEqDiff, Nat.reduceBEq, Nat.reduceLT, Nat.reduceLeDiff, Nat.reducePow, Int.reduceToNat, Int.reduceLT, Int.reduceLE, Int.reduceGT, Int.reduceGE, Int.reduceEq, Int.reduceNeg, Int.reduceAdd, Int.reduceSub, Int.reduceMul, ↓reduceIte, reduceCtorEq, *]
          generalize hz22 : iter _ _ _ _ _ = z21
          have hq23 : Q_p_spyref3_Meant_l2 a0_0 a0_1 a0_2 o18 z21 := by
            rw [← hz22]
            refine l_p_spyref3_Meant_l2 L hL a0_0 a0_1 a0_2 L (i64.wrap (r14 + 5)) _ _ _  ?_ ?_ ?_ ho20
            all_goals simp only [go_sem, Nat.reduceAdd, Nat.reduceSub, Nat.reduceMul, Nat.reduceEqDiff, Nat.reduceBEq, Nat.reduceLT, Nat.reduceLeDiff, Nat.reducePow, Int.reduceToNat, Int.reduceLT, Int.reduceLE, Int.reduceGT, Int.reduceGE, Int.reduceEq, Int.reduceNeg, Int.reduceAdd, Int.reduceSub, Int.reduceMul, ↓reduceIte, reduceCtorEq, *]
          clear hz22 ho20
          obtain ⟨_, st19, rfl, rfl, ⟨k241, k242, k243⟩⟩ := hq23
          revert h
          rintro ⟨⟩
          simp only [go_sem, Nat.reduceAdd, Nat.reduceSub, Nat.reduceMul, Nat.reduceEqDiff, Nat.reduceBEq, Nat.reduceLT, Nat.reduceLeDiff, Nat.reducePow, Int.reduceToNat, Int.reduceLT, Int.reduceLE, Int.reduceGT, Int.reduceGE, Int.reduceEq, Int.reduceNeg, Int.reduceAdd, Int.reduceSub, Int.reduceMul, ↓reduceIte, reduceCtorEq, *]
noncomputable def s_spyref3_Meant (L : Nat) : Ev.Spec := specP (cCons k35 cNil) (fun x => p_spyref3_Meant L x.1.1 x.1.2.1 x.1.2.2.1) (fun r => [.agg 35 [.int .i64 r.1, .int .i64 r.2.1, .bool r.2.2]])
theorem s_spyref3_Meant_run (L : Nat) (a0_0 : Int) (a0_1 : Int) (a0_2 : Bool) : (s_spyref3_Meant L).run [.agg 35 [.int .i64 a0_0, .int .i64 a0_1, .bool a0_2]] = (p_spyref3_Meant L a0_0 a0_1 a0_2).map fun r => [.agg 35 [.int .i64 r.1, .int .i64 r.2.1, .bool r.2.2]] := specP_run (cCons k35 cNil) (fun x => p_spyref3_Meant L x.1.1 x.1.2.1 x.1.2.2.1) (fun r => [.agg 35 [.int .i64 r.1, .int .i64 r.2.1, .bool r.2.2]]) ((a0_0, a0_1, a0_2, ()), ())
theorem ok_spyref3_Meant (L : Nat) (hL : L ≤ 4611686018427387904) : SpecOk Try.prog 84 (s_spyref3_Meant L) := specP_ok mixed (Go_spyref3_Meant L hL) (To_spyref3_Meant L) fun x r h => ⟨L, 1, e_spyref3_Meant L hL x.1.1 x.1.2.1 x.1.2.2.1 r h⟩
end Go.Proofs.Ytnojehmbiceceaa.P
end
