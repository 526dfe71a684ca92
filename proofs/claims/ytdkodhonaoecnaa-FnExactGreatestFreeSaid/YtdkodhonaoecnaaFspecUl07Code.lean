/- The reading of spec_l07Code, and its contract. No condition. -/
import Derived.Test.YtdkodhonaoecnaaTy
import Derived.Test.YtdkodhonaoecnaaS3Part
import Derived.Test.YtdkodhonaoecnaaFspecUl01All
import Derived.Test.YtdkodhonaoecnaaFspecUl01In
namespace Go.Proofs.Ytdkodhonaoecnaa
open Go Go.RowKit Eng Mem
set_option linter.unusedVariables false
set_option maxRecDepth 100000
def V_spec_l07Code (k0 : Int) (part1 : Value) (kind2 : Int) (w : World) (K : Int → World → Prop) : Prop :=
  (Fc Try.prog 45 #[(.int .i64 k0), (.int .i64 (1 : Int)), (.int .i64 (3 : Int))] w (.one .bool) fun (x8_2 : Bool) w_1 => (((!x8_2) = true → K (2 : Int) w_1) ∧ ((!x8_2) = false → (QAll Try.prog (Builtin.len_ #[25] 3 #[part1]) (.int .i64) fun (x12_3 : Int) => (((decide (x12_3 > (40 : Int))) = true → K (2 : Int) w_1) ∧ ((decide (x12_3 > (40 : Int))) = false → (Fc Try.prog 52 #[part1, (.int .i64 k0)] w_1 (.one .bool) fun (x18_5 : Bool) w_4 => (((!x18_5) = true → K (2 : Int) w_4) ∧ ((!x18_5) = false → (Fc Try.prog 45 #[(.int .i64 kind2), (.int .i64 (0 : Int)), (.int .i64 (2 : Int))] w_4 (.one .bool) fun (x23_7 : Bool) w_6 => (((!x23_7) = true → K (2 : Int) w_6) ∧ ((!x23_7) = false → K (0 : Int) w_6))))))))))))

theorem eq_spec_l07Code (k0 : Int) (part1 : Value) (kind2 : Int) (w : World) (K : Int → World → Prop) :
    W Try.prog ty (fun _ _ _ _ => False) (bodyOf Try.f58) (fnPost Try.prog Try.f58.results.toList (.one (.int .i64)) K) (frame0 [(.int .i64 k0), part1, (.int .i64 kind2)] 26) w = V_spec_l07Code k0 part1 kind2 w K := by
  kernel_rfl

theorem body_spec_l07Code : Try.f58.body = some (bodyOf Try.f58) := by kernel_rfl
theorem name_spec_l07Code : (Try.f58.name == "runtime.NumGoroutine") = false := by kernel_rfl

theorem walk_spec_l07Code (k0 : Int) (part1 : Value) (kind2 : Int) {w : World} {K : Int → World → Prop} (h : V_spec_l07Code k0 part1 kind2 w K) : Fc Try.prog 58 #[(.int .i64 k0), part1, (.int .i64 kind2)] w (.one (.int .i64)) K :=
  fn_ok follows (sound_none _) Try.func58 name_spec_l07Code body_spec_l07Code Try.ntmps58 [(.int .i64 k0), part1, (.int .i64 kind2)] (Eq.mpr (eq_spec_l07Code k0 part1 kind2 w K) h)

-- uses S3Part
theorem c_spec_l07Code {k kind : Int} {a : Value} {l : List Int} {w : World} {K : Int → World → Prop} (h : SlI w a l) (hK : K (if IsPart k l ∧ 0 ≤ kind ∧ kind ≤ 2 then 0 else 2) w) :
    Fc Try.prog F_spec_l07Code #[.int .i64 k, a, .int .i64 kind] w (.one (.int .i64)) K := by
  have no : ¬ (IsPart k l ∧ 0 ≤ kind ∧ kind ≤ 2) → K 2 w := fun hn => by rwa [if_neg hn] at hK
  refine walk_spec_l07Code _ _ _ (c_spec_l01In _ _ _ ⟨fun h1 => no fun hp => notd_t h1 ⟨hp.1.1, hp.1.2.1⟩, fun h1 => ?_⟩)
  have h1 := notd_f h1
  refine lenI h ⟨fun h2 => no fun hp => by have := dec_t h2; have := hp.1.2.2.1; omega, fun h2 => ?_⟩
  have h2 := dec_f h2
  refine c_spec_l01All h (by omega) (by omega) ⟨fun h3 => no fun hp => notd_t h3 hp.1.2.2.2, fun h3 => ?_⟩
  have h3 := notd_f h3
  refine c_spec_l01In _ _ _ ⟨fun h4 => no fun hp => notd_t h4 hp.2, fun h4 => ?_⟩
  have h4 := notd_f h4
  rwa [if_pos ⟨⟨h1.1, h1.2, by omega, h3⟩, h4⟩] at hK

end Go.Proofs.Ytdkodhonaoecnaa
