/- What the functions of the program compute (part 1). No condition. -/
import Derived.Test.YtlokmogjbpcmgaaRows
import Derived.Test.YtlokmogjbpcmgaaRD
set_option linter.unusedVariables false
set_option linter.unusedSimpArgs false
namespace Go.Proofs.Ytlokmogjbpcmgaa.Cv
open Go Go.Cv Go.Proofs Go.Cv.Enc Go.Cv.Own
noncomputable def cfg : Cfg := { P := Try.prog, keep := fun f => match f with | 10 => 1 | 16 => 1 | 17 => 1 | 25 => 1 | 28 => 1 | 32 => 1 | 45 => 1 | 59 => 1 | 60 => 1 | 66 => 1 | 79 => 1 | 88 => 1 | _ => 0, mode := fun f => match f with | 2 => 2 | 3 => 2 | 4 => 2 | 5 => 2 | 6 => 2 | 7 => 2 | 8 => 2 | 9 => 3 | 10 => 2 | 11 => 2 | 12 => 1 | 13 => 2 | 14 => 2 | 15 => 2 | 16 => 2 | 17 => 2 | 18 => 2 | 19 => 2 | 20 => 2 | 21 => 2 | 22 => 2 | 23 => 2 | 24 => 2 | 25 => 2 | 26 => 2 | 27 => 3 | 28 => 2 | 29 => 1 | 30 => 2 | 31 => 3 | 32 => 2 | 33 => 1 | 34 => 2 | 35 => 2 | 36 => 2 | 37 => 1 | 38 => 1 | 39 => 2 | 40 => 2 | 41 => 2 | 42 => 2 | 43 => 2 | 44 => 2 | 45 => 2 | 46 => 2 | 47 => 2 | 48 => 2 | 49 => 2 | 50 => 2 | 51 => 2 | 52 => 2 | 53 => 2 | 54 => 2 | 55 => 2 | 56 => 2 | 57 => 2 | 58 => 2 | 59 => 2 | 60 => 2 | 61 => 2 | 62 => 2 | 63 => 2 | 64 => 3 | 65 => 2 | 66 => 2 | 67 => 2 | 68 => 2 | 69 => 2 | 70 => 2 | 71 => 2 | 72 => 2 | 73 => 2 | 74 => 2 | 75 => 2 | 76 => 2 | 77 => 2 | 78 => 2 | 79 => 2 | 80 => 2 | 81 => 2 | 82 => 2 | 83 => 2 | 84 => 2 | 85 => 3 | 86 => 1 | 87 => 3 | 88 => 2 | 89 => 2 | 90 => 2 | 91 => 2 | 92 => 2 | 93 => 2 | 94 => 2 | 95 => 2 | 96 => 2 | 97 => 2 | 98 => 2 | 99 => 3 | 100 => 3 | 101 => 3 | 102 => 3 | 103 => 2 | 104 => 3 | 105 => 3 | 106 => 3 | 107 => 3 | 108 => 2 | _ => 0, ext := fun _ => Option.none, glob := fun _ => Option.none }
@[simp] theorem cfg_P : cfg.P = Try.prog := rfl
theorem nzc : CallNz cfg.call := nz_cfg (fun _ => rfl)
@[simp] theorem cm2 (xs : List D) (n : Nat) : callM cfg cfg.call 2 xs n = lentR (cfg.call 2 (xs.map frz) n) := callM_2 rfl
@[simp] theorem cm3 (xs : List D) (n : Nat) : callM cfg cfg.call 3 xs n = lentR (cfg.call 3 (xs.map frz) n) := callM_2 rfl
@[simp] theorem cm4 (xs : List D) (n : Nat) : callM cfg cfg.call 4 xs n = lentR (cfg.call 4 (xs.map frz) n) := callM_2 rfl
@[simp] theorem cm5 (xs : List D) (n : Nat) : callM cfg cfg.call 5 xs n = lentR (cfg.call 5 (xs.map frz) n) := callM_2 rfl
@[simp] theorem cm6 (xs : List D) (n : Nat) : callM cfg cfg.call 6 xs n = lentR (cfg.call 6 (xs.map frz) n) := callM_2 rfl
@[simp] theorem cm7 (xs : List D) (n : Nat) : callM cfg cfg.call 7 xs n = lentR (cfg.call 7 (xs.map frz) n) := callM_2 rfl
@[simp] theorem cm8 (xs : List D) (n : Nat) : callM cfg cfg.call 8 xs n = lentR (cfg.call 8 (xs.map frz) n) := callM_2 rfl
@[simp] theorem cm9 (xs : List D) (n : Nat) : callM cfg cfg.call 9 xs n = goneR (movE xs) (cfg.call 9 (xs.map frz) n) := callM_3 rfl
@[simp] theorem cm10 (xs : List D) (n : Nat) : callM cfg cfg.call 10 xs n = lentR (cfg.call 10 (xs.map frz) n) := callM_2 rfl
@[simp] theorem cm11 (xs : List D) (n : Nat) : callM cfg cfg.call 11 xs n = lentR (cfg.call 11 (xs.map frz) n) := callM_2 rfl
@[simp] theorem cm12 (xs : List D) (n : Nat) : callM cfg cfg.call 12 xs n = cfg.call 12 xs n := callM_1 rfl
@[simp] theorem cm13 (xs : List D) (n : Nat) : callM cfg cfg.call 13 xs n = lentR (cfg.call 13 (xs.map frz) n) := callM_2 rfl
@[simp] theorem cm14 (xs : List D) (n : Nat) : callM cfg cfg.call 14 xs n = lentR (cfg.call 14 (xs.map frz) n) := callM_2 rfl
@[simp] theorem cm15 (xs : List D) (n : Nat) : callM cfg cfg.call 15 xs n = lentR (cfg.call 15 (xs.map frz) n) := callM_2 rfl
@[simp] theorem cm16 (xs : List D) (n : Nat) : callM cfg cfg.call 16 xs n = lentR (cfg.call 16 (xs.map frz) n) := callM_2 rfl
@[simp] theorem cm17 (xs : List D) (n : Nat) : callM cfg cfg.call 17 xs n = lentR (cfg.call 17 (xs.map frz) n) := callM_2 rfl
@[simp] theorem cm18 (xs : List D) (n : Nat) : callM cfg cfg.call 18 xs n = lentR (cfg.call 18 (xs.map frz) n) := callM_2 rfl
@[simp] theorem cm19 (xs : List D) (n : Nat) : callM cfg cfg.call 19 xs n = lentR (cfg.call 19 (xs.map frz) n) := callM_2 rfl
@[simp] theorem cm20 (xs : List D) (n : Nat) : callM cfg cfg.call 20 xs n = lentR (cfg.call 20 (xs.map frz) n) := callM_2 rfl
@[simp] theorem cm21 (xs : List D) (n : Nat) : callM cfg cfg.call 21 xs n = lentR (cfg.call 21 (xs.map frz) n) := callM_2 rfl
@[simp] theorem cm22 (xs : List D) (n : Nat) : callM cfg cfg.call 22 xs n = lentR (cfg.call 22 (xs.map frz) n) := callM_2 rfl
@[simp] theorem cm23 (xs : List D) (n : Nat) : callM cfg cfg.call 23 xs n = lentR (cfg.call 23 (xs.map frz) n) := callM_2 rfl
@[simp] theorem cm24 (xs : List D) (n : Nat) : callM cfg cfg.call 24 xs n = lentR (cfg.call 24 (xs.map frz) n) := callM_2 rfl
@[simp] theorem cm25 (xs : List D) (n : Nat) : callM cfg cfg.call 25 xs n = lentR (cfg.call 25 (xs.map frz) n) := callM_2 rfl
@[simp] theorem cm26 (xs : List D) (n : Nat) : callM cfg cfg.call 26 xs n = lentR (cfg.call 26 (xs.map frz) n) := callM_2 rfl
@[simp] theorem cm27 (xs : List D) (n : Nat) : callM cfg cfg.call 27 xs n = goneR (movE xs) (cfg.call 27 (xs.map frz) n) := callM_3 rfl
@[simp] theorem cm28 (xs : List D) (n : Nat) : callM cfg cfg.call 28 xs n = lentR (cfg.call 28 (xs.map frz) n) := callM_2 rfl
@[simp] theorem cm29 (xs : List D) (n : Nat) : callM cfg cfg.call 29 xs n = cfg.call 29 xs n := callM_1 rfl
@[simp] theorem cm30 (xs : List D) (n : Nat) : callM cfg cfg.call 30 xs n = lentR (cfg.call 30 (xs.map frz) n) := callM_2 rfl
@[simp] theorem cm31 (xs : List D) (n : Nat) : callM cfg cfg.call 31 xs n = goneR (movE xs) (cfg.call 31 (xs.map frz) n) := callM_3 rfl
@[simp] theorem cm32 (xs : List D) (n : Nat) : callM cfg cfg.call 32 xs n = lentR (cfg.call 32 (xs.map frz) n) := callM_2 rfl
@[simp] theorem cm33 (xs : List D) (n : Nat) : callM cfg cfg.call 33 xs n = cfg.call 33 xs n := callM_1 rfl
@[simp] theorem cm34 (xs : List D) (n : Nat) : callM cfg cfg.call 34 xs n = lentR (cfg.call 34 (xs.map frz) n) := callM_2 rfl
@[simp] theorem cm35 (xs : List D) (n : Nat) : callM cfg cfg.call 35 xs n = lentR (cfg.call 35 (xs.map frz) n) := callM_2 rfl
@[simp] theorem cm36 (xs : List D) (n : Nat) : callM cfg cfg.call 36 xs n = lentR (cfg.call 36 (xs.map frz) n) := callM_2 rfl
@[simp] theorem cm37 (xs : List D) (n : Nat) : callM cfg cfg.call 37 xs n = cfg.call 37 xs n := callM_1 rfl
@[simp] theorem cm38 (xs : List D) (n : Nat) : callM cfg cfg.call 38 xs n = cfg.call 38 xs n := callM_1 rfl
@[simp] theorem cm39 (xs : List D) (n : Nat) : callM cfg cfg.call 39 xs n = lentR (cfg.call 39 (xs.map frz) n) := callM_2 rfl
@[simp] theorem cm40 (xs : List D) (n : Nat) : callM cfg cfg.call 40 xs n = lentR (cfg.call 40 (xs.map frz) n) := callM_2 rfl
@[simp] theorem cm41 (xs : List D) (n : Nat) : callM cfg cfg.call 41 xs n = lentR (cfg.call 41 (xs.map frz) n) := callM_2 rfl
@[simp] theorem cm42 (xs : List D) (n : Nat) : callM cfg cfg.call 42 xs n = lentR (cfg.call 42 (xs.map frz) n) := callM_2 rfl
@[simp] theorem cm43 (xs : List D) (n : Nat) : callM cfg cfg.call 43 xs n = lentR (cfg.call 43 (xs.map frz) n) := callM_2 rfl
@[simp] theorem cm44 (xs : List D) (n : Nat) : callM cfg cfg.call 44 xs n = lentR (cfg.call 44 (xs.map frz) n) := callM_2 rfl
@[simp] theorem cm45 (xs : List D) (n : Nat) : callM cfg cfg.call 45 xs n = lentR (cfg.call 45 (xs.map frz) n) := callM_2 rfl
@[simp] theorem cm46 (xs : List D) (n : Nat) : callM cfg cfg.call 46 xs n = lentR (cfg.call 46 (xs.map frz) n) := callM_2 rfl
@[simp] theorem cm47 (xs : List D) (n : Nat) : callM cfg cfg.call 47 xs n = lentR (cfg.call 47 (xs.map frz) n) := callM_2 rfl
@[simp] theorem cm48 (xs : List D) (n : Nat) : callM cfg cfg.call 48 xs n = lentR (cfg.call 48 (xs.map frz) n) := callM_2 rfl
@[simp] theorem cm49 (xs : List D) (n : Nat) : callM cfg cfg.call 49 xs n = lentR (cfg.call 49 (xs.map frz) n) := callM_2 rfl
@[simp] theorem cm50 (xs : List D) (n : Nat) : callM cfg cfg.call 50 xs n = lentR (cfg.call 50 (xs.map frz) n) := callM_2 rfl
@[simp] theorem cm51 (xs : List D) (n : Nat) : callM cfg cfg.call 51 xs n = lentR (cfg.call 51 (xs.map frz) n) := callM_2 rfl
@[simp] theorem cm52 (xs : List D) (n : Nat) : callM cfg cfg.call 52 xs n = lentR (cfg.call 52 (xs.map frz) n) := callM_2 rfl
@[simp] theorem cm53 (xs : List D) (n : Nat) : callM cfg cfg.call 53 xs n = lentR (cfg.call 53 (xs.map frz) n) := callM_2 rfl
@[simp] theorem cm54 (xs : List D) (n : Nat) : callM cfg cfg.call 54 xs n = lentR (cfg.call 54 (xs.map frz) n) := callM_2 rfl
@[simp] theorem cm55 (xs : List D) (n : Nat) : callM cfg cfg.call 55 xs n = lentR (cfg.call 55 (xs.map frz) n) := callM_2 rfl
@[simp] theorem cm56 (xs : List D) (n : Nat) : callM cfg cfg.call 56 xs n = lentR (cfg.call 56 (xs.map frz) n) := callM_2 rfl
@[simp] theorem cm57 (xs : List D) (n : Nat) : callM cfg cfg.call 57 xs n = lentR (cfg.call 57 (xs.map frz) n) := callM_2 rfl
@[simp] theorem cm58 (xs : List D) (n : Nat) : callM cfg cfg.call 58 xs n = lentR (cfg.call 58 (xs.map frz) n) := callM_2 rfl
@[simp] theorem cm59 (xs : List D) (n : Nat) : callM cfg cfg.call 59 xs n = lentR (cfg.call 59 (xs.map frz) n) := callM_2 rfl
@[simp] theorem cm60 (xs : List D) (n : Nat) : callM cfg cfg.call 60 xs n = lentR (cfg.call 60 (xs.map frz) n) := callM_2 rfl
@[simp] theorem cm61 (xs : List D) (n : Nat) : callM cfg cfg.call 61 xs n = lentR (cfg.call 61 (xs.map frz) n) := callM_2 rfl
@[simp] theorem cm62 (xs : List D) (n : Nat) : callM cfg cfg.call 62 xs n = lentR (cfg.call 62 (xs.map frz) n) := callM_2 rfl
@[simp] theorem cm63 (xs : List D) (n : Nat) : callM cfg cfg.call 63 xs n = lentR (cfg.call 63 (xs.map frz) n) := callM_2 rfl
@[simp] theorem cm64 (xs : List D) (n : Nat) : callM cfg cfg.call 64 xs n = goneR (movE xs) (cfg.call 64 (xs.map frz) n) := callM_3 rfl
@[simp] theorem cm65 (xs : List D) (n : Nat) : callM cfg cfg.call 65 xs n = lentR (cfg.call 65 (xs.map frz) n) := callM_2 rfl
@[simp] theorem cm66 (xs : List D) (n : Nat) : callM cfg cfg.call 66 xs n = lentR (cfg.call 66 (xs.map frz) n) := callM_2 rfl
@[simp] theorem cm67 (xs : List D) (n : Nat) : callM cfg cfg.call 67 xs n = lentR (cfg.call 67 (xs.map frz) n) := callM_2 rfl
@[simp] theorem cm68 (xs : List D) (n : Nat) : callM cfg cfg.call 68 xs n = lentR (cfg.call 68 (xs.map frz) n) := callM_2 rfl
@[simp] theorem cm69 (xs : List D) (n : Nat) : callM cfg cfg.call 69 xs n = lentR (cfg.call 69 (xs.map frz) n) := callM_2 rfl
@[simp] theorem cm70 (xs : List D) (n : Nat) : callM cfg cfg.call 70 xs n = lentR (cfg.call 70 (xs.map frz) n) := callM_2 rfl
@[simp] theorem cm71 (xs : List D) (n : Nat) : callM cfg cfg.call 71 xs n = lentR (cfg.call 71 (xs.map frz) n) := callM_2 rfl
@[simp] theorem cm72 (xs : List D) (n : Nat) : callM cfg cfg.call 72 xs n = lentR (cfg.call 72 (xs.map frz) n) := callM_2 rfl
@[simp] theorem cm73 (xs : List D) (n : Nat) : callM cfg cfg.call 73 xs n = lentR (cfg.call 73 (xs.map frz) n) := callM_2 rfl
@[simp] theorem cm74 (xs : List D) (n : Nat) : callM cfg cfg.call 74 xs n = lentR (cfg.call 74 (xs.map frz) n) := callM_2 rfl
@[simp] theorem cm75 (xs : List D) (n : Nat) : callM cfg cfg.call 75 xs n = lentR (cfg.call 75 (xs.map frz) n) := callM_2 rfl
@[simp] theorem cm76 (xs : List D) (n : Nat) : callM cfg cfg.call 76 xs n = lentR (cfg.call 76 (xs.map frz) n) := callM_2 rfl
@[simp] theorem cm77 (xs : List D) (n : Nat) : callM cfg cfg.call 77 xs n = lentR (cfg.call 77 (xs.map frz) n) := callM_2 rfl
@[simp] theorem cm78 (xs : List D) (n : Nat) : callM cfg cfg.call 78 xs n = lentR (cfg.call 78 (xs.map frz) n) := callM_2 rfl
@[simp] theorem cm79 (xs : List D) (n : Nat) : callM cfg cfg.call 79 xs n = lentR (cfg.call 79 (xs.map frz) n) := callM_2 rfl
@[simp] theorem cm80 (xs : List D) (n : Nat) : callM cfg cfg.call 80 xs n = lentR (cfg.call 80 (xs.map frz) n) := callM_2 rfl
@[simp] theorem cm81 (xs : List D) (n : Nat) : callM cfg cfg.call 81 xs n = lentR (cfg.call 81 (xs.map frz) n) := callM_2 rfl
@[simp] theorem cm82 (xs : List D) (n : Nat) : callM cfg cfg.call 82 xs n = lentR (cfg.call 82 (xs.map frz) n) := callM_2 rfl
@[simp] theorem cm83 (xs : List D) (n : Nat) : callM cfg cfg.call 83 xs n = lentR (cfg.call 83 (xs.map frz) n) := callM_2 rfl
@[simp] theorem cm84 (xs : List D) (n : Nat) : callM cfg cfg.call 84 xs n = lentR (cfg.call 84 (xs.map frz) n) := callM_2 rfl
@[simp] theorem cm85 (xs : List D) (n : Nat) : callM cfg cfg.call 85 xs n = goneR (movE xs) (cfg.call 85 (xs.map frz) n) := callM_3 rfl
@[simp] theorem cm86 (xs : List D) (n : Nat) : callM cfg cfg.call 86 xs n = cfg.call 86 xs n := callM_1 rfl
@[simp] theorem cm87 (xs : List D) (n : Nat) : callM cfg cfg.call 87 xs n = goneR (movE xs) (cfg.call 87 (xs.map frz) n) := callM_3 rfl
@[simp] theorem cm88 (xs : List D) (n : Nat) : callM cfg cfg.call 88 xs n = lentR (cfg.call 88 (xs.map frz) n) := callM_2 rfl
@[simp] theorem cm89 (xs : List D) (n : Nat) : callM cfg cfg.call 89 xs n = lentR (cfg.call 89 (xs.map frz) n) := callM_2 rfl
@[simp] theorem cm90 (xs : List D) (n : Nat) : callM cfg cfg.call 90 xs n = lentR (cfg.call 90 (xs.map frz) n) := callM_2 rfl
@[simp] theorem cm91 (xs : List D) (n : Nat) : callM cfg cfg.call 91 xs n = lentR (cfg.call 91 (xs.map frz) n) := callM_2 rfl
@[simp] theorem cm92 (xs : List D) (n : Nat) : callM cfg cfg.call 92 xs n = lentR (cfg.call 92 (xs.map frz) n) := callM_2 rfl
@[simp] theorem cm93 (xs : List D) (n : Nat) : callM cfg cfg.call 93 xs n = lentR (cfg.call 93 (xs.map frz) n) := callM_2 rfl
@[simp] theorem cm94 (xs : List D) (n : Nat) : callM cfg cfg.call 94 xs n = lentR (cfg.call 94 (xs.map frz) n) := callM_2 rfl
@[simp] theorem cm95 (xs : List D) (n : Nat) : callM cfg cfg.call 95 xs n = lentR (cfg.call 95 (xs.map frz) n) := callM_2 rfl
@[simp] theorem cm96 (xs : List D) (n : Nat) : callM cfg cfg.call 96 xs n = lentR (cfg.call 96 (xs.map frz) n) := callM_2 rfl
@[simp] theorem cm97 (xs : List D) (n : Nat) : callM cfg cfg.call 97 xs n = lentR (cfg.call 97 (xs.map frz) n) := callM_2 rfl
@[simp] theorem cm98 (xs : List D) (n : Nat) : callM cfg cfg.call 98 xs n = lentR (cfg.call 98 (xs.map frz) n) := callM_2 rfl
@[simp] theorem cm99 (xs : List D) (n : Nat) : callM cfg cfg.call 99 xs n = goneR (movE xs) (cfg.call 99 (xs.map frz) n) := callM_3 rfl
@[simp] theorem cm100 (xs : List D) (n : Nat) : callM cfg cfg.call 100 xs n = goneR (movE xs) (cfg.call 100 (xs.map frz) n) := callM_3 rfl
@[simp] theorem cm101 (xs : List D) (n : Nat) : callM cfg cfg.call 101 xs n = goneR (movE xs) (cfg.call 101 (xs.map frz) n) := callM_3 rfl
@[simp] theorem cm102 (xs : List D) (n : Nat) : callM cfg cfg.call 102 xs n = goneR (movE xs) (cfg.call 102 (xs.map frz) n) := callM_3 rfl
@[simp] theorem cm103 (xs : List D) (n : Nat) : callM cfg cfg.call 103 xs n = lentR (cfg.call 103 (xs.map frz) n) := callM_2 rfl
@[simp] theorem cm104 (xs : List D) (n : Nat) : callM cfg cfg.call 104 xs n = goneR (movE xs) (cfg.call 104 (xs.map frz) n) := callM_3 rfl
@[simp] theorem cm105 (xs : List D) (n : Nat) : callM cfg cfg.call 105 xs n = goneR (movE xs) (cfg.call 105 (xs.map frz) n) := callM_3 rfl
@[simp] theorem cm106 (xs : List D) (n : Nat) : callM cfg cfg.call 106 xs n = goneR (movE xs) (cfg.call 106 (xs.map frz) n) := callM_3 rfl
@[simp] theorem cm107 (xs : List D) (n : Nat) : callM cfg cfg.call 107 xs n = goneR (movE xs) (cfg.call 107 (xs.map frz) n) := callM_3 rfl
@[simp] theorem cm108 (xs : List D) (n : Nat) : callM cfg cfg.call 108 xs n = lentR (cfg.call 108 (xs.map frz) n) := callM_2 rfl
@[simp] theorem tySz_2 : tySz Try.prog 2 = some 1 := by kernel_rfl
@[simp] theorem tyBy_2 : tyBytes Try.prog 2 = some 8 := by kernel_rfl
@[simp] theorem tyAg_2 : tyAgg Try.prog 2 = some false := by kernel_rfl
@[simp] theorem tyIn_2 : tyInt Try.prog 2 = some .i64 := by kernel_rfl
@[simp] theorem tyZe_2 : tyZero Try.prog 2 = some [ci 0] := by kernel_rfl
@[simp] theorem tySz_3 : tySz Try.prog 3 = some 1 := by kernel_rfl
@[simp] theorem tyBy_3 : tyBytes Try.prog 3 = some 8 := by kernel_rfl
@[simp] theorem tyAg_3 : tyAgg Try.prog 3 = some false := by kernel_rfl
@[simp] theorem tyIn_3 : tyInt Try.prog 3 = some .i64 := by kernel_rfl
@[simp] theorem tyZe_3 : tyZero Try.prog 3 = some [ci 0] := by kernel_rfl
@[simp] theorem tySz_4 : tySz Try.prog 4 = some 1 := by kernel_rfl
@[simp] theorem tyBy_4 : tyBytes Try.prog 4 = some 1 := by kernel_rfl
@[simp] theorem tyAg_4 : tyAgg Try.prog 4 = some false := by kernel_rfl
@[simp] theorem tyBo_4 : tyBool Try.prog 4 = true := by kernel_rfl
@[simp] theorem tyZe_4 : tyZero Try.prog 4 = some [bi false] := by kernel_rfl
@[simp] theorem tySz_22 : tySz Try.prog 22 = some 1 := by kernel_rfl
@[simp] theorem tyBy_22 : tyBytes Try.prog 22 = some 24 := by kernel_rfl
@[simp] theorem tyAg_22 : tyAgg Try.prog 22 = some false := by kernel_rfl
@[simp] theorem tyEl_22 : tyElem Try.prog 22 = some 57 := by kernel_rfl
@[simp] theorem tyZe_22 : tyZero Try.prog 22 = some [nilD] := by kernel_rfl
@[simp] theorem tySz_23 : tySz Try.prog 23 = some 1 := by kernel_rfl
@[simp] theorem tyBy_23 : tyBytes Try.prog 23 = some 24 := by kernel_rfl
@[simp] theorem tyAg_23 : tyAgg Try.prog 23 = some false := by kernel_rfl
@[simp] theorem tyEl_23 : tyElem Try.prog 23 = some 86 := by kernel_rfl
@[simp] theorem tyZe_23 : tyZero Try.prog 23 = some [nilD] := by kernel_rfl
@[simp] theorem tySz_25 : tySz Try.prog 25 = some 3 := by kernel_rfl
@[simp] theorem tyBy_25 : tyBytes Try.prog 25 = some 72 := by kernel_rfl
@[simp] theorem tyAg_25 : tyAgg Try.prog 25 = some true := by kernel_rfl
@[simp] theorem tyAn_25 : tyArr Try.prog 25 = none := by kernel_rfl
@[simp] theorem tyFi_25_0 : tyField Try.prog 25 0 = some (0, 22) := by kernel_rfl
@[simp] theorem tyFi_25_1 : tyField Try.prog 25 1 = some (1, 22) := by kernel_rfl
@[simp] theorem tyFi_25_2 : tyField Try.prog 25 2 = some (2, 23) := by kernel_rfl
@[simp] theorem tyPl_25 : tyPlaces Try.prog 25 = some [(0, 1), (1, 1), (2, 1)] := by kernel_rfl
@[simp] theorem tyZe_25 : tyZero Try.prog 25 = some [nilD, nilD, nilD] := by kernel_rfl
@[simp] theorem tySz_30 : tySz Try.prog 30 = some 1 := by kernel_rfl
@[simp] theorem tyBy_30 : tyBytes Try.prog 30 = some 24 := by kernel_rfl
@[simp] theorem tyAg_30 : tyAgg Try.prog 30 = some false := by kernel_rfl
@[simp] theorem tyEl_30 : tyElem Try.prog 30 = some 64 := by kernel_rfl
@[simp] theorem tyZe_30 : tyZero Try.prog 30 = some [nilD] := by kernel_rfl
@[simp] theorem tySz_31 : tySz Try.prog 31 = some 1 := by kernel_rfl
@[simp] theorem tyBy_31 : tyBytes Try.prog 31 = some 24 := by kernel_rfl
@[simp] theorem tyAg_31 : tyAgg Try.prog 31 = some false := by kernel_rfl
@[simp] theorem tyEl_31 : tyElem Try.prog 31 = some 3 := by kernel_rfl
@[simp] theorem tyZe_31 : tyZero Try.prog 31 = some [nilD] := by kernel_rfl
@[simp] theorem tySz_34 : tySz Try.prog 34 = some 1 := by kernel_rfl
@[simp] theorem tyBy_34 : tyBytes Try.prog 34 = some 24 := by kernel_rfl
@[simp] theorem tyAg_34 : tyAgg Try.prog 34 = some false := by kernel_rfl
@[simp] theorem tyEl_34 : tyElem Try.prog 34 = some 68 := by kernel_rfl
@[simp] theorem tyZe_34 : tyZero Try.prog 34 = some [nilD] := by kernel_rfl
@[simp] theorem tySz_41 : tySz Try.prog 41 = some 1 := by kernel_rfl
@[simp] theorem tyBy_41 : tyBytes Try.prog 41 = some 24 := by kernel_rfl
@[simp] theorem tyAg_41 : tyAgg Try.prog 41 = some false := by kernel_rfl
@[simp] theorem tyEl_41 : tyElem Try.prog 41 = some 93 := by kernel_rfl
@[simp] theorem tyZe_41 : tyZero Try.prog 41 = some [nilD] := by kernel_rfl
@[simp] theorem tySz_42 : tySz Try.prog 42 = some 1 := by kernel_rfl
@[simp] theorem tyBy_42 : tyBytes Try.prog 42 = some 24 := by kernel_rfl
@[simp] theorem tyAg_42 : tyAgg Try.prog 42 = some false := by kernel_rfl
@[simp] theorem tyEl_42 : tyElem Try.prog 42 = some 95 := by kernel_rfl
@[simp] theorem tyZe_42 : tyZero Try.prog 42 = some [nilD] := by kernel_rfl
@[simp] theorem tySz_44 : tySz Try.prog 44 = some 3 := by kernel_rfl
@[simp] theorem tyBy_44 : tyBytes Try.prog 44 = some 72 := by kernel_rfl
@[simp] theorem tyAg_44 : tyAgg Try.prog 44 = some true := by kernel_rfl
@[simp] theorem tyAn_44 : tyArr Try.prog 44 = none := by kernel_rfl
@[simp] theorem tyFi_44_0 : tyField Try.prog 44 0 = some (0, 41) := by kernel_rfl
@[simp] theorem tyFi_44_1 : tyField Try.prog 44 1 = some (1, 41) := by kernel_rfl
@[simp] theorem tyFi_44_2 : tyField Try.prog 44 2 = some (2, 42) := by kernel_rfl
@[simp] theorem tyPl_44 : tyPlaces Try.prog 44 = some [(0, 1), (1, 1), (2, 1)] := by kernel_rfl
@[simp] theorem tyZe_44 : tyZero Try.prog 44 = some [nilD, nilD, nilD] := by kernel_rfl
@[simp] theorem tySz_57 : tySz Try.prog 57 = some 2 := by kernel_rfl
@[simp] theorem tyBy_57 : tyBytes Try.prog 57 = some 16 := by kernel_rfl
@[simp] theorem tyAg_57 : tyAgg Try.prog 57 = some true := by kernel_rfl
@[simp] theorem tyAn_57 : tyArr Try.prog 57 = none := by kernel_rfl
@[simp] theorem tyFi_57_0 : tyField Try.prog 57 0 = some (0, 3) := by kernel_rfl
@[simp] theorem tyFi_57_1 : tyField Try.prog 57 1 = some (1, 3) := by kernel_rfl
@[simp] theorem tyPl_57 : tyPlaces Try.prog 57 = some [(0, 1), (1, 1)] := by kernel_rfl
@[simp] theorem tyZe_57 : tyZero Try.prog 57 = some [ci 0, ci 0] := by kernel_rfl
@[simp] theorem tySz_64 : tySz Try.prog 64 = some 2 := by kernel_rfl
@[simp] theorem tyBy_64 : tyBytes Try.prog 64 = some 32 := by kernel_rfl
@[simp] theorem tyAg_64 : tyAgg Try.prog 64 = some true := by kernel_rfl
@[simp] theorem tyAn_64 : tyArr Try.prog 64 = none := by kernel_rfl
@[simp] theorem tyFi_64_0 : tyField Try.prog 64 0 = some (0, 31) := by kernel_rfl
@[simp] theorem tyFi_64_1 : tyField Try.prog 64 1 = some (1, 3) := by kernel_rfl
@[simp] theorem tyPl_64 : tyPlaces Try.prog 64 = some [(0, 1), (1, 1)] := by kernel_rfl
@[simp] theorem tyZe_64 : tyZero Try.prog 64 = some [nilD, ci 0] := by kernel_rfl
@[simp] theorem tySz_68 : tySz Try.prog 68 = some 2 := by kernel_rfl
@[simp] theorem tyBy_68 : tyBytes Try.prog 68 = some 32 := by kernel_rfl
@[simp] theorem tyAg_68 : tyAgg Try.prog 68 = some true := by kernel_rfl
@[simp] theorem tyAn_68 : tyArr Try.prog 68 = none := by kernel_rfl
@[simp] theorem tyFi_68_0 : tyField Try.prog 68 0 = some (0, 31) := by kernel_rfl
@[simp] theorem tyFi_68_1 : tyField Try.prog 68 1 = some (1, 3) := by kernel_rfl
@[simp] theorem tyPl_68 : tyPlaces Try.prog 68 = some [(0, 1), (1, 1)] := by kernel_rfl
@[simp] theorem tyZe_68 : tyZero Try.prog 68 = some [nilD, ci 0] := by kernel_rfl
@[simp] theorem tySz_70 : tySz Try.prog 70 = some 20 := by kernel_rfl
@[simp] theorem tyBy_70 : tyBytes Try.prog 70 = some 20 := by kernel_rfl
@[simp] theorem tyAg_70 : tyAgg Try.prog 70 = some true := by kernel_rfl
@[simp] theorem tyAr_70 : tyArr Try.prog 70 = some (20, 4) := by kernel_rfl
@[simp] theorem tyPn_70 : tyPlaces Try.prog 70 = none := by kernel_rfl
@[simp] theorem tySz_72 : tySz Try.prog 72 = some 400 := by kernel_rfl
@[simp] theorem tyBy_72 : tyBytes Try.prog 72 = some 400 := by kernel_rfl
@[simp] theorem tyAg_72 : tyAgg Try.prog 72 = some true := by kernel_rfl
@[simp] theorem tyAr_72 : tyArr Try.prog 72 = some (20, 70) := by kernel_rfl
@[simp] theorem tyPn_72 : tyPlaces Try.prog 72 = none := by kernel_rfl
@[simp] theorem tyZe_72 : tyZero Try.prog 72 = some (mat (fun _ _ => false)) := by rw [← rep_matb]; kernel_rfl
@[simp] theorem tySz_78 : tySz Try.prog 78 = some 20 := by kernel_rfl
@[simp] theorem tyBy_78 : tyBytes Try.prog 78 = some 160 := by kernel_rfl
@[simp] theorem tyAg_78 : tyAgg Try.prog 78 = some true := by kernel_rfl
@[simp] theorem tyAr_78 : tyArr Try.prog 78 = some (20, 3) := by kernel_rfl
@[simp] theorem tyPn_78 : tyPlaces Try.prog 78 = none := by kernel_rfl
@[simp] theorem tySz_79 : tySz Try.prog 79 = some 400 := by kernel_rfl
@[simp] theorem tyBy_79 : tyBytes Try.prog 79 = some 3200 := by kernel_rfl
@[simp] theorem tyAg_79 : tyAgg Try.prog 79 = some true := by kernel_rfl
@[simp] theorem tyAr_79 : tyArr Try.prog 79 = some (20, 78) := by kernel_rfl
@[simp] theorem tyPn_79 : tyPlaces Try.prog 79 = none := by kernel_rfl
@[simp] theorem tyZe_79 : tyZero Try.prog 79 = some (mat (fun _ _ => (0 : Int))) := by rw [← rep_mati]; kernel_rfl
@[simp] theorem tySz_86 : tySz Try.prog 86 = some 4 := by kernel_rfl
@[simp] theorem tyBy_86 : tyBytes Try.prog 86 = some 48 := by kernel_rfl
@[simp] theorem tyAg_86 : tyAgg Try.prog 86 = some true := by kernel_rfl
@[simp] theorem tyAn_86 : tyArr Try.prog 86 = none := by kernel_rfl
@[simp] theorem tyFi_86_0 : tyField Try.prog 86 0 = some (0, 31) := by kernel_rfl
@[simp] theorem tyFi_86_1 : tyField Try.prog 86 1 = some (1, 57) := by kernel_rfl
@[simp] theorem tyFi_86_2 : tyField Try.prog 86 2 = some (3, 3) := by kernel_rfl
@[simp] theorem tyPl_86 : tyPlaces Try.prog 86 = some [(0, 1), (1, 2), (3, 1)] := by kernel_rfl
@[simp] theorem tyZe_86 : tyZero Try.prog 86 = some [nilD, ci 0, ci 0, ci 0] := by kernel_rfl
@[simp] theorem tySz_93 : tySz Try.prog 93 = some 2 := by kernel_rfl
@[simp] theorem tyBy_93 : tyBytes Try.prog 93 = some 16 := by kernel_rfl
@[simp] theorem tyAg_93 : tyAgg Try.prog 93 = some true := by kernel_rfl
@[simp] theorem tyAn_93 : tyArr Try.prog 93 = none := by kernel_rfl
@[simp] theorem tyFi_93_0 : tyField Try.prog 93 0 = some (0, 3) := by kernel_rfl
@[simp] theorem tyFi_93_1 : tyField Try.prog 93 1 = some (1, 3) := by kernel_rfl
@[simp] theorem tyPl_93 : tyPlaces Try.prog 93 = some [(0, 1), (1, 1)] := by kernel_rfl
@[simp] theorem tyZe_93 : tyZero Try.prog 93 = some [ci 0, ci 0] := by kernel_rfl
@[simp] theorem tySz_95 : tySz Try.prog 95 = some 4 := by kernel_rfl
@[simp] theorem tyBy_95 : tyBytes Try.prog 95 = some 48 := by kernel_rfl
@[simp] theorem tyAg_95 : tyAgg Try.prog 95 = some true := by kernel_rfl
@[simp] theorem tyAn_95 : tyArr Try.prog 95 = none := by kernel_rfl
@[simp] theorem tyFi_95_0 : tyField Try.prog 95 0 = some (0, 31) := by kernel_rfl
@[simp] theorem tyFi_95_1 : tyField Try.prog 95 1 = some (1, 93) := by kernel_rfl
@[simp] theorem tyFi_95_2 : tyField Try.prog 95 2 = some (3, 3) := by kernel_rfl
@[simp] theorem tyPl_95 : tyPlaces Try.prog 95 = some [(0, 1), (1, 2), (3, 1)] := by kernel_rfl
@[simp] theorem tyZe_95 : tyZero Try.prog 95 = some [nilD, ci 0, ci 0, ci 0] := by kernel_rfl
@[simp] theorem tySz_101 : tySz Try.prog 101 = some 1 := by kernel_rfl
@[simp] theorem tyBy_101 : tyBytes Try.prog 101 = some 24 := by kernel_rfl
@[simp] theorem tyAg_101 : tyAgg Try.prog 101 = some false := by kernel_rfl
@[simp] theorem tyEl_101 : tyElem Try.prog 101 = some 34 := by kernel_rfl
@[simp] theorem tyZe_101 : tyZero Try.prog 101 = some [nilD] := by kernel_rfl
def inR (x lo hi : Int) : Bool := decide (lo ≤ x) && decide (x ≤ hi)
theorem inR_t {x lo hi : Int} : inR x lo hi = true ↔ lo ≤ x ∧ x ≤ hi := by simp [inR]
theorem inR_f {x lo hi : Int} : inR x lo hi = false ↔ ¬ (lo ≤ x ∧ x ≤ hi) := by simp [inR]
def isV (x : Int) : Bool := inR x 0 19
theorem isV_t {x : Int} : isV x = true ↔ 0 ≤ x ∧ x ≤ 19 := by simp [isV, inR]

set_option maxHeartbeats 1000000 in
/-- spec.inRange -/
@[simp] theorem c_spec_inRange (x lo hi : Int) (n : Nat) (hn : n ≠ 0)  : cfg.call 43 [ci x, ci lo, ci hi] n = some (bi (inR x lo hi), n, []) := by
 refine call_runs0 rfl Try.func43 rfl (by kernel_rfl) rfl (by simp (disch := omega) [low_agg, low_pt, low_fn]) ?_; refine Runs.cseq ?_; refine Runs.regO (.inl rfl) nzc (fun R hR => ?_); simp (disch := omega) [if_t, hn]; refine hR _ _ _ (by simp) ?_; clear hR R; refine Runs.cseq ?_; refine Runs.regO (.inl rfl) nzc (fun R hR => ?_); repeat' (first | (simp (disch := omega) [if_t, hn]) | (with_reducible refine RunsW.splitN (fun hb => ?_) (fun hb => ?_) <;> (try simp only [hb]) <;> (try simp at hb) <;> (try have hx0 := inR_t.1 hb) <;> (try have hx1 := isV_t.1 hb)) | (with_reducible refine RunsW.split (fun hb => ?_) (fun hb => ?_) <;> (try simp only [hb]) <;> (try simp at hb) <;> (try have hx0 := inR_t.1 hb) <;> (try have hx1 := isV_t.1 hb)))
 all_goals (
  refine hR _ _ _ (by simp) ?_; clear hR R; refine Runs.ret ?_; dsimp only [thenQ, blockQ]; refine ⟨by simp, by simp (disch := omega) <;> omega, ?_⟩
  simp (disch := omega) [if_t, hn, resD, resL, resV, inR] <;> (first | omega | (simp_all; done) | (simp_all <;> omega)))

set_option maxHeartbeats 1000000 in
/-- impl.isVertex -/
@[simp] theorem c_impl_isVertex (x : Int) (n : Nat) (hn : n ≠ 0)  : cfg.call 48 [ci x] n = some (bi (isV x), n, []) := by
 refine call_runs0 rfl Try.func48 rfl (by kernel_rfl) rfl (by simp (disch := omega) [low_agg, low_pt, low_fn]) ?_; refine Runs.cseq ?_; refine Runs.regO (.inl rfl) nzc (fun R hR => ?_); simp (disch := omega) [if_t, hn]; refine hR _ _ _ (by simp) ?_; clear hR R; refine Runs.cseq ?_; refine Runs.regO (.inl rfl) nzc (fun R hR => ?_); repeat' (first | (simp (disch := omega) [if_t, hn]) | (with_reducible refine RunsW.splitN (fun hb => ?_) (fun hb => ?_) <;> (try simp only [hb]) <;> (try simp at hb) <;> (try have hx0 := inR_t.1 hb) <;> (try have hx1 := isV_t.1 hb)) | (with_reducible refine RunsW.split (fun hb => ?_) (fun hb => ?_) <;> (try simp only [hb]) <;> (try simp at hb) <;> (try have hx0 := inR_t.1 hb) <;> (try have hx1 := isV_t.1 hb)))
 all_goals (
  refine hR _ _ _ (by simp) ?_; clear hR R; refine Runs.ret ?_; dsimp only [thenQ, blockQ]; refine ⟨by simp, by simp (disch := omega) <;> omega, ?_⟩
  simp (disch := omega) [if_t, hn, resD, resL, resV, isV, inR] <;> (first | omega | (simp_all; done) | (simp_all <;> omega)))

def okNum (x : Int) : Bool := inR x (-9999) 9999
def allOk : List Int → Bool
  | [] => true
  | x :: xs => okNum x && allOk xs
def validRow (xs : List Int) : Bool := allOk xs && inR xs.length 1 6

set_option maxHeartbeats 1000000 in
/-- spec.validRow -/
@[simp] theorem c_spec_validRow (xs : List Int) (n : Nat) (hn : n ≠ 0) (p0 : sizL xs ≤ 1152921504606846976) : cfg.call 70 [cl xs] n = some (bi (validRow xs), n, []) := by
 refine call_runs0 rfl Try.func70 rfl (by kernel_rfl) rfl (by simp (disch := omega) [low_agg, low_pt, low_fn]) ?_; have hl_xs := len_siz xs
 refine Runs.cseq ?_; refine Runs.regO (.inl rfl) nzc (fun R hR => ?_); simp (disch := omega) [if_t, hn]; refine hR _ _ _ (by simp) ?_; clear hR R; refine Runs.cseq ?_; refine Runs.cseq ?_; refine Runs.regO (.inl rfl) nzc (fun R hR => ?_); simp (disch := omega) [if_t, hn]; refine hR _ _ _ (by simp) ?_; clear hR R; refine Runs.cblock ?_; refine Runs.loop (fun k fr n' E => ∃ (i : Nat), n ≤ n' ∧ Go.Cv.Loc n E ∧ fr 0 = cl xs ∧ fr 3 = ci (i : Int) ∧ i + k = xs.length ∧ allOk xs = allOk (xs.drop i)) ?_ (k := xs.length) ?_
 ·rintro k1 fr n1 E1 ⟨i, hn1, hE1, s0, s3, hk, hM⟩
  have hz1 : n1 ≠ 0 := by omega
  refine Runs.cseq ?_; refine Runs.cseq ?_; refine Runs.regO (.inl rfl) nzc (fun R hR => ?_); simp (disch := omega) [if_t, hn, s0, s3]; refine hR _ _ _ (by simp) ?_; clear hR R; refine Runs.condI fun d hd => ?_; simp (disch := omega) [if_t, hn, s0, s3] at hd; subst hd; refine cond_b (fun hc => ?_) (fun hc => ?_)
  ·first | (simp at hc; done) |
    (
    (try simp at hc); (try have hcx0 := inR_t.1 hc); (try have hcx1 := isV_t.1 hc); have hsz := siz_ix hc
    (try simp at hsz); rw [drop_ix hc] at hM; rw [allOk] at hM; refine Runs.skip ?_; refine Runs.cseq ?_; refine Runs.cblock ?_; refine Runs.cseq ?_; refine Runs.regO (.inl rfl) nzc (fun R hR => ?_); simp (disch := omega) [if_t, hn, s0, s3]; refine hR _ _ _ (by simp) ?_; clear hR R; refine Runs.condI fun d hd => ?_; simp (disch := omega) [if_t, hn, s0, s3] at hd; subst hd; refine cond_b (fun hc => ?_) (fun hc => ?_)
    ·first | (simp at hc; done) |
      (
      (try simp at hc); (try have hcx0 := inR_t.1 hc); (try have hcx1 := isV_t.1 hc); have hM : allOk xs = false := by rw [hM]; simp [okNum, hc]
      refine Runs.cseq ?_; refine Runs.regO (.inl rfl) nzc (fun R hR => ?_); simp (disch := omega) [if_t, hn, s0, s3]; refine hR _ _ _ (by simp) ?_; clear hR R; refine Runs.ret ?_; dsimp only [thenQ, blockQ]; refine ⟨by simp, by simp (disch := omega) [hE1] <;> omega, ?_⟩
      simp (disch := omega) [if_t, hn, s0, s3, resD, resL, resV] <;> (first | omega | (simp_all [validRow, allOk]; done) | (simp_all [validRow, allOk] <;> omega)))
    ·first | (simp at hc; done) |
      (
      (try simp at hc); (try have hcx0 := inR_t.1 hc); (try have hcx1 := isV_t.1 hc); rw [show okNum (ix xs i) = true from hc, Bool.true_and] at hM; refine Runs.skip ?_; refine Runs.regO (.inl rfl) nzc (fun R hR => ?_); simp (disch := omega) [if_t, hn, s0, s3]; refine hR _ _ _ (by simp) ?_; clear hR R; dsimp only [thenQ, blockQ]; refine ⟨k1 - 1, by omega, i + 1, ?_, ?_, ?_, ?_, ?_, ?_⟩
      ·omega
      ·simp (disch := omega) [hE1] <;> omega
      ·simp (disch := omega) [if_t, hn, s0, s3]
      ·simp (disch := omega) [if_t, hn, s0, s3]
      ·first | omega | assumption
      ·rw [hM]))
  ·first | (simp at hc; done) |
    (
    (try simp at hc); (try have hcx0 := inR_t.1 hc); (try have hcx1 := isV_t.1 hc); rw [List.drop_of_length_le (by omega)] at hM; refine Runs.exit ?_; refine Runs.cseq ?_; refine Runs.regO (.inl rfl) nzc (fun R hR => ?_); simp (disch := omega) [if_t, hn, s0, s3]; refine hR _ _ _ (by simp) ?_; clear hR R; refine Runs.ret ?_; dsimp only [thenQ, blockQ]; refine ⟨by simp, by simp (disch := omega) [hE1] <;> omega, ?_⟩
    simp (disch := omega) [if_t, hn, s0, s3, resD, resL, resV] <;> (first | omega | (simp_all [validRow, allOk]; done) | (simp_all [validRow, allOk] <;> omega)))
 ·skip
  refine ⟨0, ?_, ?_, ?_, ?_, ?_, ?_⟩
  ·omega
  ·simp
  ·simp (disch := omega) [if_t, hn]
  ·simp (disch := omega) [if_t, hn]
  ·first | omega | simp | rfl
  ·rfl

theorem cons_eq {α : Type} [DecidableEq α] (x y : α) (a b : List α) : decide (x :: a = y :: b) = (decide (x = y) && decide (a = b)) := by
  by_cases h : x = y <;> simp [h]

set_option maxHeartbeats 1000000 in
/-- spec.equalInts -/
@[simp] theorem c_spec_equalInts (xs ys : List Int) (n : Nat) (hn : n ≠ 0) (p0 : sizL xs ≤ 1152921504606846976) : cfg.call 52 [cl xs, cl ys] n = some (bi (decide (xs = ys)), n, []) := by
 refine call_runs0 rfl Try.func52 rfl (by kernel_rfl) rfl (by simp (disch := omega) [low_agg, low_pt, low_fn]) ?_; have hl_xs := len_siz xs
 refine Runs.cseq ?_; refine Runs.regO (.inl rfl) nzc (fun R hR => ?_); simp (disch := omega) [if_t, hn]; refine hR _ _ _ (by simp) ?_; clear hR R; refine Runs.cseq ?_; refine Runs.cseq ?_; refine Runs.regO (.inl rfl) nzc (fun R hR => ?_); simp (disch := omega) [if_t, hn]; refine hR _ _ _ (by simp) ?_; clear hR R; refine Runs.condI fun d hd => ?_; simp (disch := omega) [if_t, hn] at hd; subst hd; refine cond_b (fun hc => ?_) (fun hc => ?_)
 ·first | (simp at hc; done) |
   (
   (try simp at hc); (try have hcx0 := inR_t.1 hc); (try have hcx1 := isV_t.1 hc); have hne : ¬ xs = ys := fun h => hc (by rw [h])
   refine Runs.cseq ?_; refine Runs.regO (.inl rfl) nzc (fun R hR => ?_); simp (disch := omega) [if_t, hn]; refine hR _ _ _ (by simp) ?_; clear hR R; refine Runs.ret ?_; dsimp only [thenQ, blockQ]; refine ⟨by simp, by simp (disch := omega) <;> omega, ?_⟩
   simp (disch := omega) [if_t, hn, resD, resL, resV] <;> (first | omega | (simp_all; done) | (simp_all <;> omega)))
 ·first | (simp at hc; done) |
   (
   (try simp at hc); (try have hcx0 := inR_t.1 hc); (try have hcx1 := isV_t.1 hc); have hle : xs.length = ys.length := by omega
   refine Runs.skip ?_; refine Runs.cseq ?_; refine Runs.cseq ?_; refine Runs.regO (.inl rfl) nzc (fun R hR => ?_); simp (disch := omega) [if_t, hn]; refine hR _ _ _ (by simp) ?_; clear hR R; refine Runs.cblock ?_; refine Runs.loop (fun k fr n' E => ∃ (i : Nat), n ≤ n' ∧ Go.Cv.Loc n E ∧ fr 0 = cl xs ∧ fr 1 = cl ys ∧ fr 5 = ci (i : Int) ∧ i + k = xs.length ∧ decide (xs = ys) = decide (xs.drop i = ys.drop i)) ?_ (k := xs.length) ?_
   ·rintro k1 fr n1 E1 ⟨i, hn1, hE1, s0, s1, s5, hk, hM⟩
    have hz1 : n1 ≠ 0 := by omega
    refine Runs.cseq ?_; refine Runs.cseq ?_; refine Runs.regO (.inl rfl) nzc (fun R hR => ?_); simp (disch := omega) [if_t, hn, s0, s1, s5]; refine hR _ _ _ (by simp) ?_; clear hR R; refine Runs.condI fun d hd => ?_; simp (disch := omega) [if_t, hn, s0, s1, s5] at hd; subst hd; refine cond_b (fun hc => ?_) (fun hc => ?_)
    ·first | (simp at hc; done) |
      (
      (try simp at hc); (try have hcx0 := inR_t.1 hc); (try have hcx1 := isV_t.1 hc); have hsz := siz_ix hc
      (try simp at hsz); rw [drop_ix hc] at hM; rw [drop_ix (xs := ys) (i := i) (by omega), cons_eq] at hM; refine Runs.skip ?_; refine Runs.cseq ?_; refine Runs.cblock ?_; refine Runs.cseq ?_; refine Runs.regO (.inr (by kernel_rfl)) nzc (fun R hR => ?_); simp (disch := omega) [if_t, hn, s0, s1, s5]; refine hR _ _ _ (by simp) ?_; clear hR R; refine Runs.condI fun d hd => ?_; simp (disch := omega) [if_t, hn, s0, s1, s5] at hd; subst hd; refine cond_b (fun hc => ?_) (fun hc => ?_)
      ·first | (simp at hc; done) |
        (
        (try simp at hc); (try have hcx0 := inR_t.1 hc); (try have hcx1 := isV_t.1 hc); rw [decide_eq_false hc, Bool.false_and] at hM; refine Runs.cseq ?_; refine Runs.regO (.inl rfl) nzc (fun R hR => ?_); simp (disch := omega) [if_t, hn, s0, s1, s5]; refine hR _ _ _ (by simp) ?_; clear hR R; refine Runs.ret ?_; dsimp only [thenQ, blockQ]; refine ⟨by simp, by simp (disch := omega) [hE1] <;> omega, ?_⟩
        simp (disch := omega) [if_t, hn, s0, s1, s5, resD, resL, resV] <;> (first | omega | (simp_all; done) | (simp_all <;> omega)))
      ·first | (simp at hc; done) |
        (
        (try simp at hc); (try have hcx0 := inR_t.1 hc); (try have hcx1 := isV_t.1 hc); rw [decide_eq_true hc, Bool.true_and] at hM; refine Runs.skip ?_; refine Runs.regO (.inl rfl) nzc (fun R hR => ?_); simp (disch := omega) [if_t, hn, s0, s1, s5]; refine hR _ _ _ (by simp) ?_; clear hR R; dsimp only [thenQ, blockQ]; refine ⟨k1 - 1, by omega, i + 1, ?_, ?_, ?_, ?_, ?_, ?_, ?_⟩
        ·omega
        ·simp (disch := omega) [hE1] <;> omega
        ·simp (disch := omega) [if_t, hn, s0, s1, s5]
        ·simp (disch := omega) [if_t, hn, s0, s1, s5]
        ·simp (disch := omega) [if_t, hn, s0, s1, s5]
        ·first | omega | assumption
        ·rw [hM]))
    ·first | (simp at hc; done) |
      (
      (try simp at hc); (try have hcx0 := inR_t.1 hc); (try have hcx1 := isV_t.1 hc); rw [List.drop_of_length_le (by omega), List.drop_of_length_le (by omega)] at hM; refine Runs.exit ?_; refine Runs.cseq ?_; refine Runs.regO (.inl rfl) nzc (fun R hR => ?_); simp (disch := omega) [if_t, hn, s0, s1, s5]; refine hR _ _ _ (by simp) ?_; clear hR R; refine Runs.ret ?_; dsimp only [thenQ, blockQ]; refine ⟨by simp, by simp (disch := omega) [hE1] <;> omega, ?_⟩
      simp (disch := omega) [if_t, hn, s0, s1, s5, resD, resL, resV] <;> (first | omega | (simp_all; done) | (simp_all <;> omega)))
   ·skip
    refine ⟨0, ?_, ?_, ?_, ?_, ?_, ?_, ?_⟩
    ·omega
    ·simp
    ·simp (disch := omega) [if_t, hn]
    ·simp (disch := omega) [if_t, hn]
    ·simp (disch := omega) [if_t, hn]
    ·first | omega | simp | rfl
    ·rfl)

set_option maxHeartbeats 1000000 in
/-- laws.eqIntS -/
@[simp] theorem c_laws_eqIntS (xs ys : List Int) (n : Nat) (hn : n ≠ 0) (p0 : sizL xs ≤ 1152921504606846976) : cfg.call 20 [cl xs, cl ys] n = some (bi (decide (xs = ys)), n, []) := by
 refine call_runs0 rfl Try.func20 rfl (by kernel_rfl) rfl (by simp (disch := omega) [low_agg, low_pt, low_fn]) ?_; have hl_xs := len_siz xs
 refine Runs.cseq ?_; refine Runs.regO (.inl rfl) nzc (fun R hR => ?_); simp (disch := omega) [if_t, hn]; refine hR _ _ _ (by simp) ?_; clear hR R; refine Runs.cseq ?_; refine Runs.cseq ?_; refine Runs.regO (.inl rfl) nzc (fun R hR => ?_); simp (disch := omega) [if_t, hn]; refine hR _ _ _ (by simp) ?_; clear hR R; refine Runs.condI fun d hd => ?_; simp (disch := omega) [if_t, hn] at hd; subst hd; refine cond_b (fun hc => ?_) (fun hc => ?_)
 ·first | (simp at hc; done) |
   (
   (try simp at hc); (try have hcx0 := inR_t.1 hc); (try have hcx1 := isV_t.1 hc); have hne : ¬ xs = ys := fun h => hc (by rw [h])
   refine Runs.cseq ?_; refine Runs.regO (.inl rfl) nzc (fun R hR => ?_); simp (disch := omega) [if_t, hn]; refine hR _ _ _ (by simp) ?_; clear hR R; refine Runs.ret ?_; dsimp only [thenQ, blockQ]; refine ⟨by simp, by simp (disch := omega) <;> omega, ?_⟩
   simp (disch := omega) [if_t, hn, resD, resL, resV] <;> (first | omega | (simp_all; done) | (simp_all <;> omega)))
 ·first | (simp at hc; done) |
   (
   (try simp at hc); (try have hcx0 := inR_t.1 hc); (try have hcx1 := isV_t.1 hc); have hle : xs.length = ys.length := by omega
   refine Runs.skip ?_; refine Runs.cseq ?_; refine Runs.cseq ?_; refine Runs.regO (.inl rfl) nzc (fun R hR => ?_); simp (disch := omega) [if_t, hn]; refine hR _ _ _ (by simp) ?_; clear hR R; refine Runs.cblock ?_; refine Runs.loop (fun k fr n' E => ∃ (i : Nat), n ≤ n' ∧ Go.Cv.Loc n E ∧ fr 0 = cl xs ∧ fr 1 = cl ys ∧ fr 5 = ci (i : Int) ∧ i + k = xs.length ∧ decide (xs = ys) = decide (xs.drop i = ys.drop i)) ?_ (k := xs.length) ?_
   ·rintro k1 fr n1 E1 ⟨i, hn1, hE1, s0, s1, s5, hk, hM⟩
    have hz1 : n1 ≠ 0 := by omega
    refine Runs.cseq ?_; refine Runs.cseq ?_; refine Runs.regO (.inl rfl) nzc (fun R hR => ?_); simp (disch := omega) [if_t, hn, s0, s1, s5]; refine hR _ _ _ (by simp) ?_; clear hR R; refine Runs.condI fun d hd => ?_; simp (disch := omega) [if_t, hn, s0, s1, s5] at hd; subst hd; refine cond_b (fun hc => ?_) (fun hc => ?_)
    ·first | (simp at hc; done) |
      (
      (try simp at hc); (try have hcx0 := inR_t.1 hc); (try have hcx1 := isV_t.1 hc); have hsz := siz_ix hc
      (try simp at hsz); rw [drop_ix hc] at hM; rw [drop_ix (xs := ys) (i := i) (by omega), cons_eq] at hM; refine Runs.skip ?_; refine Runs.cseq ?_; refine Runs.cblock ?_; refine Runs.cseq ?_; refine Runs.regO (.inr (by kernel_rfl)) nzc (fun R hR => ?_); simp (disch := omega) [if_t, hn, s0, s1, s5]; refine hR _ _ _ (by simp) ?_; clear hR R; refine Runs.condI fun d hd => ?_; simp (disch := omega) [if_t, hn, s0, s1, s5] at hd; subst hd; refine cond_b (fun hc => ?_) (fun hc => ?_)
      ·first | (simp at hc; done) |
        (
        (try simp at hc); (try have hcx0 := inR_t.1 hc); (try have hcx1 := isV_t.1 hc); rw [decide_eq_false hc, Bool.false_and] at hM; refine Runs.cseq ?_; refine Runs.regO (.inl rfl) nzc (fun R hR => ?_); simp (disch := omega) [if_t, hn, s0, s1, s5]; refine hR _ _ _ (by simp) ?_; clear hR R; refine Runs.ret ?_; dsimp only [thenQ, blockQ]; refine ⟨by simp, by simp (disch := omega) [hE1] <;> omega, ?_⟩
        simp (disch := omega) [if_t, hn, s0, s1, s5, resD, resL, resV] <;> (first | omega | (simp_all; done) | (simp_all <;> omega)))
      ·first | (simp at hc; done) |
        (
        (try simp at hc); (try have hcx0 := inR_t.1 hc); (try have hcx1 := isV_t.1 hc); rw [decide_eq_true hc, Bool.true_and] at hM; refine Runs.skip ?_; refine Runs.regO (.inl rfl) nzc (fun R hR => ?_); simp (disch := omega) [if_t, hn, s0, s1, s5]; refine hR _ _ _ (by simp) ?_; clear hR R; dsimp only [thenQ, blockQ]; refine ⟨k1 - 1, by omega, i + 1, ?_, ?_, ?_, ?_, ?_, ?_, ?_⟩
        ·omega
        ·simp (disch := omega) [hE1] <;> omega
        ·simp (disch := omega) [if_t, hn, s0, s1, s5]
        ·simp (disch := omega) [if_t, hn, s0, s1, s5]
        ·simp (disch := omega) [if_t, hn, s0, s1, s5]
        ·first | omega | assumption
        ·rw [hM]))
    ·first | (simp at hc; done) |
      (
      (try simp at hc); (try have hcx0 := inR_t.1 hc); (try have hcx1 := isV_t.1 hc); rw [List.drop_of_length_le (by omega), List.drop_of_length_le (by omega)] at hM; refine Runs.exit ?_; refine Runs.cseq ?_; refine Runs.regO (.inl rfl) nzc (fun R hR => ?_); simp (disch := omega) [if_t, hn, s0, s1, s5]; refine hR _ _ _ (by simp) ?_; clear hR R; refine Runs.ret ?_; dsimp only [thenQ, blockQ]; refine ⟨by simp, by simp (disch := omega) [hE1] <;> omega, ?_⟩
      simp (disch := omega) [if_t, hn, s0, s1, s5, resD, resL, resV] <;> (first | omega | (simp_all; done) | (simp_all <;> omega)))
   ·skip
    refine ⟨0, ?_, ?_, ?_, ?_, ?_, ?_, ?_⟩
    ·omega
    ·simp
    ·simp (disch := omega) [if_t, hn]
    ·simp (disch := omega) [if_t, hn]
    ·simp (disch := omega) [if_t, hn]
    ·first | omega | simp | rfl
    ·rfl)

def rowLess : List Int → List Int → Bool
  | x :: xs, y :: ys => if x = y then rowLess xs ys else decide (x < y)
  | [], ys => decide (0 < ys.length)
  | _ :: _, [] => false

set_option maxHeartbeats 1000000 in
/-- spec.rowLess -/
@[simp] theorem c_spec_rowLess (xs ys : List Int) (n : Nat) (hn : n ≠ 0) (p0 : sizL xs ≤ 1152921504606846976) : cfg.call 71 [cl xs, cl ys] n = some (bi (rowLess xs ys), n, []) := by
 refine call_runs0 rfl Try.func71 rfl (by kernel_rfl) rfl (by simp (disch := omega) [low_agg, low_pt, low_fn]) ?_; have hl_xs := len_siz xs
 refine Runs.cseq ?_; refine Runs.regO (.inl rfl) nzc (fun R hR => ?_); simp (disch := omega) [if_t, hn]; refine hR _ _ _ (by simp) ?_; clear hR R; refine Runs.cseq ?_; refine Runs.cseq ?_; refine Runs.regO (.inl rfl) nzc (fun R hR => ?_); simp (disch := omega) [if_t, hn]; refine hR _ _ _ (by simp) ?_; clear hR R; refine Runs.cblock ?_; refine Runs.loop (fun k fr n' E => ∃ (i : Nat), n ≤ n' ∧ Go.Cv.Loc n E ∧ fr 0 = cl xs ∧ fr 1 = cl ys ∧ fr 5 = ci (i : Int) ∧ i + k = xs.length ∧ rowLess xs ys = rowLess (xs.drop i) (ys.drop i) ∧ i ≤ ys.length) ?_ (k := xs.length) ?_
 ·rintro k1 fr n1 E1 ⟨i, hn1, hE1, s0, s1, s5, hk, hM, hi⟩
  have hz1 : n1 ≠ 0 := by omega
  refine Runs.cseq ?_; refine Runs.cseq ?_; refine Runs.regO (.inl rfl) nzc (fun R hR => ?_); repeat' (first | (simp (disch := omega) [if_t, hn, s0, s1, s5]) | (with_reducible refine RunsW.splitN (fun hb => ?_) (fun hb => ?_) <;> (try simp only [hb]) <;> (try simp at hb) <;> (try have hx0 := inR_t.1 hb) <;> (try have hx1 := isV_t.1 hb)) | (with_reducible refine RunsW.split (fun hb => ?_) (fun hb => ?_) <;> (try simp only [hb]) <;> (try simp at hb) <;> (try have hx0 := inR_t.1 hb) <;> (try have hx1 := isV_t.1 hb)))
  all_goals (
   refine hR _ _ _ (by simp) ?_; clear hR R; refine Runs.condI fun d hd => ?_; simp (disch := omega) [if_t, hn, s0, s1, s5] at hd; subst hd; refine cond_b (fun hc => ?_) (fun hc => ?_)
   ·first | (simp at hc; done) |
     (
     (try simp at hc); (try have hcx0 := inR_t.1 hc); (try have hcx1 := isV_t.1 hc); have hc : i < xs.length := by omega
     have hsz := siz_ix hc
     rw [drop_ix hc, drop_ix (xs := ys) (i := i) (by omega), rowLess] at hM; refine Runs.skip ?_; refine Runs.cseq ?_; refine Runs.cblock ?_; refine Runs.cseq ?_; refine Runs.regO (.inr (by kernel_rfl)) nzc (fun R hR => ?_); simp (disch := omega) [if_t, hn, s0, s1, s5]; refine hR _ _ _ (by simp) ?_; clear hR R; refine Runs.condI fun d hd => ?_; simp (disch := omega) [if_t, hn, s0, s1, s5] at hd; subst hd; refine cond_b (fun hc => ?_) (fun hc => ?_)
     ·first | (simp at hc; done) |
       (
       (try simp at hc); (try have hcx0 := inR_t.1 hc); (try have hcx1 := isV_t.1 hc); rw [if_neg hc] at hM; refine Runs.cseq ?_; refine Runs.regO (.inr (by kernel_rfl)) nzc (fun R hR => ?_); simp (disch := omega) [if_t, hn, s0, s1, s5]; refine hR _ _ _ (by simp) ?_; clear hR R; refine Runs.ret ?_; dsimp only [thenQ, blockQ]; refine ⟨by simp, by simp (disch := omega) [hE1] <;> omega, ?_⟩
       simp (disch := omega) [if_t, hn, s0, s1, s5, resD, resL, resV] <;> (first | omega | (simp_all; done) | (simp_all <;> omega)))
     ·first | (simp at hc; done) |
       (
       (try simp at hc); (try have hcx0 := inR_t.1 hc); (try have hcx1 := isV_t.1 hc); rw [if_pos hc] at hM; refine Runs.skip ?_; refine Runs.regO (.inl rfl) nzc (fun R hR => ?_); simp (disch := omega) [if_t, hn, s0, s1, s5]; refine hR _ _ _ (by simp) ?_; clear hR R; dsimp only [thenQ, blockQ]; refine ⟨k1 - 1, by omega, i + 1, ?_, ?_, ?_, ?_, ?_, ?_, ?_, ?_⟩
       ·omega
       ·simp (disch := omega) [hE1] <;> omega
       ·simp (disch := omega) [if_t, hn, s0, s1, s5]
       ·simp (disch := omega) [if_t, hn, s0, s1, s5]
       ·simp (disch := omega) [if_t, hn, s0, s1, s5]
       ·first | omega | assumption
       ·rw [hM]
       ·first | omega | assumption))
   ·first | (simp at hc; done) |
     (
     (try simp at hc); (try have hcx0 := inR_t.1 hc); (try have hcx1 := isV_t.1 hc); have hM : rowLess xs ys = decide (xs.length < ys.length) := by
      rw [hM]; by_cases h1 : i < xs.length
      ·rw [drop_ix h1, List.drop_of_length_le (l := ys) (by omega), rowLess]; symm; apply decide_eq_false; omega
      ·rw [List.drop_of_length_le (l := xs) (by omega), rowLess, List.length_drop]; congr 1; apply propext; omega
     refine Runs.exit ?_; refine Runs.cseq ?_; refine Runs.regO (.inl rfl) nzc (fun R hR => ?_); simp (disch := omega) [if_t, hn, s0, s1, s5]; refine hR _ _ _ (by simp) ?_; clear hR R; refine Runs.ret ?_; dsimp only [thenQ, blockQ]; refine ⟨by simp, by simp (disch := omega) [hE1] <;> omega, ?_⟩
     simp (disch := omega) [if_t, hn, s0, s1, s5, resD, resL, resV] <;> (first | omega | (simp_all; done) | (simp_all <;> omega))))
 ·skip
  refine ⟨0, ?_, ?_, ?_, ?_, ?_, ?_, ?_, ?_⟩
  ·omega
  ·simp
  ·simp (disch := omega) [if_t, hn]
  ·simp (disch := omega) [if_t, hn]
  ·simp (disch := omega) [if_t, hn]
  ·first | omega | simp | rfl
  ·rfl
  ·first | omega | simp | rfl

def okEnt (es : List Ent) (i : Nat) : Bool :=
  validRow (ix es i).row && (decide ((ix es i).row.length = (ix es 0).row.length) && (!decide ((ix es i).w = 0) && (inR (ix es i).w (-1000000) 1000000 &&
      (if i = 0 then true else rowLess (ix es (i - 1)).row (ix es i).row))))
def okFrom (es : List Ent) (i : Nat) : Nat → Bool
  | 0 => true
  | k + 1 => okEnt es i && okFrom es (i + 1) k
def validZ (es : List Ent) : Bool := okFrom es 0 es.length && decide (es.length ≤ 400)

set_option maxHeartbeats 1000000 in
/-- spec.validZSet -/
@[simp] theorem c_spec_validZSet (es : List Ent) (n : Nat) (hn : n ≠ 0) (p0 : sizL es ≤ 1152921504606846976) : cfg.call 50 [cl es] n = some (bi (validZ es), n, []) := by
 refine call_runs0 rfl Try.func50 rfl (by kernel_rfl) rfl (by simp (disch := omega) [low_agg, low_pt, low_fn]) ?_; have hl_es := len_siz es
 refine Runs.cseq ?_; refine Runs.regO (.inl rfl) nzc (fun R hR => ?_); simp (disch := omega) [if_t, hn]; refine hR _ _ _ (by simp) ?_; clear hR R; refine Runs.cseq ?_; refine Runs.cseq ?_; refine Runs.regO (.inl rfl) nzc (fun R hR => ?_); simp (disch := omega) [if_t, hn]; refine hR _ _ _ (by simp) ?_; clear hR R; refine Runs.cblock ?_; refine Runs.loop (fun k fr n' E => ∃ (i : Nat), n ≤ n' ∧ Go.Cv.Loc n E ∧ fr 0 = cl es ∧ fr 3 = ci (i : Int) ∧ i + k = es.length ∧ okFrom es 0 es.length = okFrom es i k) ?_ (k := es.length) ?_
 ·rintro k1 fr n1 E1 ⟨i, hn1, hE1, s0, s3, hk, hM⟩
  have hz1 : n1 ≠ 0 := by omega
  refine Runs.cseq ?_; refine Runs.cseq ?_; refine Runs.regO (.inl rfl) nzc (fun R hR => ?_); simp (disch := omega) [if_t, hn, s0, s3]; refine hR _ _ _ (by simp) ?_; clear hR R; refine Runs.condI fun d hd => ?_; simp (disch := omega) [if_t, hn, s0, s3] at hd; subst hd; refine cond_b (fun hc => ?_) (fun hc => ?_)
  ·first | (simp at hc; done) |
    (
    (try simp at hc); (try have hcx0 := inR_t.1 hc); (try have hcx1 := isV_t.1 hc); have hsz := siz_ix hc
    simp at hsz; have hs0 := siz_ix (xs := es) (i := 0) (by omega)
    simp at hs0; have hs1 := siz_ix (xs := es) (i := i - 1) (by omega)
    simp at hs1; obtain ⟨k1, rfl⟩ : ∃ j, k1 = j + 1 := ⟨k1 - 1, by omega⟩
    rw [okFrom] at hM; refine Runs.skip ?_; refine Runs.cseq ?_; refine Runs.cblock ?_; refine Runs.cseq ?_; refine Runs.regO (.inr (by kernel_rfl)) nzc (fun R hR => ?_); repeat' (first | (simp (disch := omega) [if_t, hn, s0, s3]) | (with_reducible refine RunsW.splitN (fun hb => ?_) (fun hb => ?_) <;> (try simp only [hb]) <;> (try simp at hb) <;> (try have hx0 := inR_t.1 hb) <;> (try have hx1 := isV_t.1 hb)) | (with_reducible refine RunsW.split (fun hb => ?_) (fun hb => ?_) <;> (try simp only [hb]) <;> (try simp at hb) <;> (try have hx0 := inR_t.1 hb) <;> (try have hx1 := isV_t.1 hb)))
    all_goals (
     refine hR _ _ _ (by simp) ?_; clear hR R; refine Runs.condI fun d hd => ?_; simp (disch := omega) [if_t, hn, s0, s3] at hd; subst hd; refine cond_b (fun hc => ?_) (fun hc => ?_)
     ·first | (simp at hc; done) |
       (
       (try simp at hc); (try have hcx0 := inR_t.1 hc); (try have hcx1 := isV_t.1 hc); have ho : okEnt es i = false := by clear hM; simp_all [okEnt] <;> omega
       have hM : okFrom es 0 es.length = false := by rw [hM, ho]; rfl
       refine Runs.cseq ?_; refine Runs.regO (.inl rfl) nzc (fun R hR => ?_); simp (disch := omega) [if_t, hn, s0, s3]; refine hR _ _ _ (by simp) ?_; clear hR R; refine Runs.ret ?_; dsimp only [thenQ, blockQ]; refine ⟨by simp, by simp (disch := omega) [hE1] <;> omega, ?_⟩
       simp (disch := omega) [if_t, hn, s0, s3, resD, resL, resV] <;> (first | omega | (simp_all [validZ]; done) | (simp_all [validZ] <;> omega)))
     ·first | (simp at hc; done) |
       (
       (try simp at hc); (try have hcx0 := inR_t.1 hc); (try have hcx1 := isV_t.1 hc); have ho : okEnt es i = true := by clear hM; simp_all [okEnt] <;> omega
       rw [ho, Bool.true_and] at hM; refine Runs.skip ?_; refine Runs.regO (.inl rfl) nzc (fun R hR => ?_); simp (disch := omega) [if_t, hn, s0, s3]; refine hR _ _ _ (by simp) ?_; clear hR R; dsimp only [thenQ, blockQ]; refine ⟨k1, by omega, i + 1, ?_, ?_, ?_, ?_, ?_, ?_⟩
       ·omega
       ·simp (disch := omega) [hE1] <;> omega
       ·simp (disch := omega) [if_t, hn, s0, s3]
       ·simp (disch := omega) [if_t, hn, s0, s3]
       ·first | omega | assumption
       ·rw [hM])))
  ·first | (simp at hc; done) |
    (
    (try simp at hc); (try have hcx0 := inR_t.1 hc); (try have hcx1 := isV_t.1 hc); obtain rfl : k1 = 0 := by omega
    rw [okFrom] at hM; refine Runs.exit ?_; refine Runs.cseq ?_; refine Runs.regO (.inl rfl) nzc (fun R hR => ?_); simp (disch := omega) [if_t, hn, s0, s3]; refine hR _ _ _ (by simp) ?_; clear hR R; refine Runs.ret ?_; dsimp only [thenQ, blockQ]; refine ⟨by simp, by simp (disch := omega) [hE1] <;> omega, ?_⟩
    simp (disch := omega) [if_t, hn, s0, s3, resD, resL, resV] <;> (first | omega | (simp_all [validZ]; done) | (simp_all [validZ] <;> omega)))
 ·skip
  refine ⟨0, ?_, ?_, ?_, ?_, ?_, ?_⟩
  ·omega
  ·simp
  ·simp (disch := omega) [if_t, hn]
  ·simp (disch := omega) [if_t, hn]
  ·first | omega | simp | rfl
  ·rfl

def allSet : List Ent → Bool
  | [] => true
  | e :: es => decide (e.w = 1) && allSet es
def wOf : List Ent → List Int → Int
  | [], _ => 0
  | e :: es, r => if e.row = r then e.w else wOf es r
def okEdge (e : Ent) : Bool := decide (e.row.length = 2) && (isV (ix e.row 0) && isV (ix e.row 1))
def allEdge : List Ent → Bool
  | [] => true
  | e :: es => okEdge e && allEdge es
def validE (es : List Ent) : Bool := validZ es && (allSet es && allEdge es)

set_option maxHeartbeats 1000000 in
/-- spec.isSet -/
@[simp] theorem c_spec_isSet (es : List Ent) (n : Nat) (hn : n ≠ 0) (p0 : sizL es ≤ 1152921504606846976) : cfg.call 51 [cl es] n = some (bi (allSet es), n, []) := by
 refine call_runs0 rfl Try.func51 rfl (by kernel_rfl) rfl (by simp (disch := omega) [low_agg, low_pt, low_fn]) ?_; have hl_es := len_siz es
 refine Runs.cseq ?_; refine Runs.regO (.inl rfl) nzc (fun R hR => ?_); simp (disch := omega) [if_t, hn]; refine hR _ _ _ (by simp) ?_; clear hR R; refine Runs.cseq ?_; refine Runs.cseq ?_; refine Runs.regO (.inl rfl) nzc (fun R hR => ?_); simp (disch := omega) [if_t, hn]; refine hR _ _ _ (by simp) ?_; clear hR R; refine Runs.cblock ?_; refine Runs.loop (fun k fr n' E => ∃ (i : Nat), n ≤ n' ∧ Go.Cv.Loc n E ∧ fr 0 = cl es ∧ fr 3 = ci (i : Int) ∧ i + k = es.length ∧ allSet es = allSet (es.drop i)) ?_ (k := es.length) ?_
 ·rintro k1 fr n1 E1 ⟨i, hn1, hE1, s0, s3, hk, hM⟩
  have hz1 : n1 ≠ 0 := by omega
  refine Runs.cseq ?_; refine Runs.cseq ?_; refine Runs.regO (.inl rfl) nzc (fun R hR => ?_); simp (disch := omega) [if_t, hn, s0, s3]; refine hR _ _ _ (by simp) ?_; clear hR R; refine Runs.condI fun d hd => ?_; simp (disch := omega) [if_t, hn, s0, s3] at hd; subst hd; refine cond_b (fun hc => ?_) (fun hc => ?_)
  ·first | (simp at hc; done) |
    (
    (try simp at hc); (try have hcx0 := inR_t.1 hc); (try have hcx1 := isV_t.1 hc); have hsz := siz_ix hc
    (try simp at hsz); rw [drop_ix hc] at hM; rw [allSet] at hM; refine Runs.skip ?_; refine Runs.cseq ?_; refine Runs.cblock ?_; refine Runs.cseq ?_; refine Runs.regO (.inl rfl) nzc (fun R hR => ?_); simp (disch := omega) [if_t, hn, s0, s3]; refine hR _ _ _ (by simp) ?_; clear hR R; refine Runs.condI fun d hd => ?_; simp (disch := omega) [if_t, hn, s0, s3] at hd; subst hd; refine cond_b (fun hc => ?_) (fun hc => ?_)
    ·first | (simp at hc; done) |
      (
      (try simp at hc); (try have hcx0 := inR_t.1 hc); (try have hcx1 := isV_t.1 hc); rw [decide_eq_false hc, Bool.false_and] at hM; refine Runs.cseq ?_; refine Runs.regO (.inl rfl) nzc (fun R hR => ?_); simp (disch := omega) [if_t, hn, s0, s3]; refine hR _ _ _ (by simp) ?_; clear hR R; refine Runs.ret ?_; dsimp only [thenQ, blockQ]; refine ⟨by simp, by simp (disch := omega) [hE1] <;> omega, ?_⟩
      simp (disch := omega) [if_t, hn, s0, s3, resD, resL, resV] <;> (first | omega | (simp_all [allSet]; done) | (simp_all [allSet] <;> omega)))
    ·first | (simp at hc; done) |
      (
      (try simp at hc); (try have hcx0 := inR_t.1 hc); (try have hcx1 := isV_t.1 hc); rw [decide_eq_true hc, Bool.true_and] at hM; refine Runs.skip ?_; refine Runs.regO (.inl rfl) nzc (fun R hR => ?_); simp (disch := omega) [if_t, hn, s0, s3]; refine hR _ _ _ (by simp) ?_; clear hR R; dsimp only [thenQ, blockQ]; refine ⟨k1 - 1, by omega, i + 1, ?_, ?_, ?_, ?_, ?_, ?_⟩
      ·omega
      ·simp (disch := omega) [hE1] <;> omega
      ·simp (disch := omega) [if_t, hn, s0, s3]
      ·simp (disch := omega) [if_t, hn, s0, s3]
      ·first | omega | assumption
      ·rw [hM]))
  ·first | (simp at hc; done) |
    (
    (try simp at hc); (try have hcx0 := inR_t.1 hc); (try have hcx1 := isV_t.1 hc); rw [List.drop_of_length_le (by omega)] at hM; refine Runs.exit ?_; refine Runs.cseq ?_; refine Runs.regO (.inl rfl) nzc (fun R hR => ?_); simp (disch := omega) [if_t, hn, s0, s3]; refine hR _ _ _ (by simp) ?_; clear hR R; refine Runs.ret ?_; dsimp only [thenQ, blockQ]; refine ⟨by simp, by simp (disch := omega) [hE1] <;> omega, ?_⟩
    simp (disch := omega) [if_t, hn, s0, s3, resD, resL, resV] <;> (first | omega | (simp_all [allSet]; done) | (simp_all [allSet] <;> omega)))
 ·skip
  refine ⟨0, ?_, ?_, ?_, ?_, ?_, ?_⟩
  ·omega
  ·simp
  ·simp (disch := omega) [if_t, hn]
  ·simp (disch := omega) [if_t, hn]
  ·first | omega | simp | rfl
  ·rfl

set_option maxHeartbeats 1000000 in
/-- spec.weightOf -/
@[simp] theorem c_spec_weightOf (es : List Ent) (r : List Int) (n : Nat) (hn : n ≠ 0) (p0 : sizL es ≤ 1152921504606846976) : cfg.call 44 [cl es, cl r] n = some (ci (wOf es r), n, []) := by
 refine call_runs0 rfl Try.func44 rfl (by kernel_rfl) rfl (by simp (disch := omega) [low_agg, low_pt, low_fn]) ?_; have hl_es := len_siz es
 refine Runs.cseq ?_; refine Runs.regO (.inl rfl) nzc (fun R hR => ?_); simp (disch := omega) [if_t, hn]; refine hR _ _ _ (by simp) ?_; clear hR R; refine Runs.cseq ?_; refine Runs.cseq ?_; refine Runs.regO (.inl rfl) nzc (fun R hR => ?_); simp (disch := omega) [if_t, hn]; refine hR _ _ _ (by simp) ?_; clear hR R; refine Runs.cblock ?_; refine Runs.loop (fun k fr n' E => ∃ (i : Nat), n ≤ n' ∧ Go.Cv.Loc n E ∧ fr 0 = cl es ∧ fr 1 = cl r ∧ fr 5 = ci (i : Int) ∧ i + k = es.length ∧ wOf es r = wOf (es.drop i) r) ?_ (k := es.length) ?_
 ·rintro k1 fr n1 E1 ⟨i, hn1, hE1, s0, s1, s5, hk, hM⟩
  have hz1 : n1 ≠ 0 := by omega
  refine Runs.cseq ?_; refine Runs.cseq ?_; refine Runs.regO (.inl rfl) nzc (fun R hR => ?_); simp (disch := omega) [if_t, hn, s0, s1, s5]; refine hR _ _ _ (by simp) ?_; clear hR R; refine Runs.condI fun d hd => ?_; simp (disch := omega) [if_t, hn, s0, s1, s5] at hd; subst hd; refine cond_b (fun hc => ?_) (fun hc => ?_)
  ·first | (simp at hc; done) |
    (
    (try simp at hc); (try have hcx0 := inR_t.1 hc); (try have hcx1 := isV_t.1 hc); have hsz := siz_ix hc
    (try simp at hsz); rw [drop_ix hc] at hM; rw [wOf] at hM; refine Runs.skip ?_; refine Runs.cseq ?_; refine Runs.cblock ?_; refine Runs.cseq ?_; refine Runs.regO (.inl rfl) nzc (fun R hR => ?_); simp (disch := omega) [if_t, hn, s0, s1, s5]; refine hR _ _ _ (by simp) ?_; clear hR R; refine Runs.condI fun d hd => ?_; simp (disch := omega) [if_t, hn, s0, s1, s5] at hd; subst hd; refine cond_b (fun hc => ?_) (fun hc => ?_)
    ·first | (simp at hc; done) |
      (
      (try simp at hc); (try have hcx0 := inR_t.1 hc); (try have hcx1 := isV_t.1 hc); rw [if_pos hc] at hM; refine Runs.cseq ?_; refine Runs.regO (.inl rfl) nzc (fun R hR => ?_); simp (disch := omega) [if_t, hn, s0, s1, s5]; refine hR _ _ _ (by simp) ?_; clear hR R; refine Runs.ret ?_; dsimp only [thenQ, blockQ]; refine ⟨by simp, by simp (disch := omega) [hE1] <;> omega, ?_⟩
      simp (disch := omega) [if_t, hn, s0, s1, s5, resD, resL, resV] <;> (first | omega | (simp_all [wOf]; done) | (simp_all [wOf] <;> omega)))
    ·first | (simp at hc; done) |
      (
      (try simp at hc); (try have hcx0 := inR_t.1 hc); (try have hcx1 := isV_t.1 hc); rw [if_neg hc] at hM; refine Runs.skip ?_; refine Runs.regO (.inl rfl) nzc (fun R hR => ?_); simp (disch := omega) [if_t, hn, s0, s1, s5]; refine hR _ _ _ (by simp) ?_; clear hR R; dsimp only [thenQ, blockQ]; refine ⟨k1 - 1, by omega, i + 1, ?_, ?_, ?_, ?_, ?_, ?_, ?_⟩
      ·omega
      ·simp (disch := omega) [hE1] <;> omega
      ·simp (disch := omega) [if_t, hn, s0, s1, s5]
      ·simp (disch := omega) [if_t, hn, s0, s1, s5]
      ·simp (disch := omega) [if_t, hn, s0, s1, s5]
      ·first | omega | assumption
      ·rw [hM]))
  ·first | (simp at hc; done) |
    (
    (try simp at hc); (try have hcx0 := inR_t.1 hc); (try have hcx1 := isV_t.1 hc); rw [List.drop_of_length_le (by omega)] at hM; refine Runs.exit ?_; refine Runs.cseq ?_; refine Runs.regO (.inl rfl) nzc (fun R hR => ?_); simp (disch := omega) [if_t, hn, s0, s1, s5]; refine hR _ _ _ (by simp) ?_; clear hR R; refine Runs.ret ?_; dsimp only [thenQ, blockQ]; refine ⟨by simp, by simp (disch := omega) [hE1] <;> omega, ?_⟩
    simp (disch := omega) [if_t, hn, s0, s1, s5, resD, resL, resV] <;> (first | omega | (simp_all [wOf]; done) | (simp_all [wOf] <;> omega)))
 ·skip
  refine ⟨0, ?_, ?_, ?_, ?_, ?_, ?_, ?_⟩
  ·omega
  ·simp
  ·simp (disch := omega) [if_t, hn]
  ·simp (disch := omega) [if_t, hn]
  ·simp (disch := omega) [if_t, hn]
  ·first | omega | simp | rfl
  ·rfl

set_option maxHeartbeats 1000000 in
/-- spec.validEdges -/
@[simp] theorem c_spec_validEdges (es : List Ent) (n : Nat) (hn : n ≠ 0) (p0 : sizL es ≤ 1152921504606846976) : cfg.call 42 [cl es] n = some (bi (validE es), n, []) := by
 refine call_runs0 rfl Try.func42 rfl (by kernel_rfl) rfl (by simp (disch := omega) [low_agg, low_pt, low_fn]) ?_; have hl_es := len_siz es
 refine Runs.cseq ?_; refine Runs.regO (.inl rfl) nzc (fun R hR => ?_); simp (disch := omega) [if_t, hn]; refine hR _ _ _ (by simp) ?_; clear hR R; refine Runs.cseq ?_; refine Runs.cseq ?_; refine Runs.regO (.inl rfl) nzc (fun R hR => ?_); repeat' (first | (simp (disch := omega) [if_t, hn]) | (with_reducible refine RunsW.splitN (fun hb => ?_) (fun hb => ?_) <;> (try simp only [hb]) <;> (try simp at hb) <;> (try have hx0 := inR_t.1 hb) <;> (try have hx1 := isV_t.1 hb)) | (with_reducible refine RunsW.split (fun hb => ?_) (fun hb => ?_) <;> (try simp only [hb]) <;> (try simp at hb) <;> (try have hx0 := inR_t.1 hb) <;> (try have hx1 := isV_t.1 hb)))
 all_goals (
  refine hR _ _ _ (by simp) ?_; clear hR R; refine Runs.condI fun d hd => ?_; simp (disch := omega) [if_t, hn] at hd; subst hd; refine cond_b (fun hc => ?_) (fun hc => ?_)
  ·first | (simp at hc; done) |
    (
    (try simp at hc); (try have hcx0 := inR_t.1 hc); (try have hcx1 := isV_t.1 hc); refine Runs.cseq ?_; refine Runs.regO (.inl rfl) nzc (fun R hR => ?_); simp (disch := omega) [if_t, hn]; refine hR _ _ _ (by simp) ?_; clear hR R; refine Runs.ret ?_; dsimp only [thenQ, blockQ]; refine ⟨by simp, by simp (disch := omega) <;> omega, ?_⟩
    simp (disch := omega) [if_t, hn, resD, resL, resV] <;> (first | omega | (simp_all [validE, allEdge]; done) | (simp_all [validE, allEdge] <;> omega)))
  ·first | (simp at hc; done) |
    (
    (try simp at hc); (try have hcx0 := inR_t.1 hc); (try have hcx1 := isV_t.1 hc); refine Runs.skip ?_; refine Runs.cseq ?_; refine Runs.cseq ?_; refine Runs.regO (.inl rfl) nzc (fun R hR => ?_); simp (disch := omega) [if_t, hn]; refine hR _ _ _ (by simp) ?_; clear hR R; refine Runs.cblock ?_; refine Runs.loop (fun k fr n' E => ∃ (i : Nat), n ≤ n' ∧ Go.Cv.Loc n E ∧ fr 0 = cl es ∧ fr 3 = ci (i : Int) ∧ i + k = es.length ∧ allEdge es = allEdge (es.drop i)) ?_ (k := es.length) ?_
    ·rintro k1 fr n1 E1 ⟨i, hn1, hE1, s0, s3, hk, hM⟩
     have hz1 : n1 ≠ 0 := by omega
     refine Runs.cseq ?_; refine Runs.cseq ?_; refine Runs.regO (.inl rfl) nzc (fun R hR => ?_); simp (disch := omega) [if_t, hn, s0, s3]; refine hR _ _ _ (by simp) ?_; clear hR R; refine Runs.condI fun d hd => ?_; simp (disch := omega) [if_t, hn, s0, s3] at hd; subst hd; refine cond_b (fun hc => ?_) (fun hc => ?_)
     ·first | (simp at hc; done) |
       (
       (try simp at hc); (try have hcx0 := inR_t.1 hc); (try have hcx1 := isV_t.1 hc); have hsz := siz_ix hc
       (try simp at hsz); rw [drop_ix hc] at hM; rw [allEdge] at hM; refine Runs.skip ?_; refine Runs.cseq ?_; refine Runs.cblock ?_; refine Runs.cseq ?_; refine Runs.regO (.inl rfl) nzc (fun R hR => ?_); simp (disch := omega) [if_t, hn, s0, s3]; refine hR _ _ _ (by simp) ?_; clear hR R; refine Runs.cseq ?_; refine Runs.regO (.inl rfl) nzc (fun R hR => ?_); repeat' (first | (simp (disch := omega) [if_t, hn, s0, s3]) | (with_reducible refine RunsW.splitN (fun hb => ?_) (fun hb => ?_) <;> (try simp only [hb]) <;> (try simp at hb) <;> (try have hx0 := inR_t.1 hb) <;> (try have hx1 := isV_t.1 hb)) | (with_reducible refine RunsW.split (fun hb => ?_) (fun hb => ?_) <;> (try simp only [hb]) <;> (try simp at hb) <;> (try have hx0 := inR_t.1 hb) <;> (try have hx1 := isV_t.1 hb)))
       all_goals (
        refine hR _ _ _ (by simp) ?_; clear hR R; refine Runs.condI fun d hd => ?_; simp (disch := omega) [if_t, hn, s0, s3] at hd; subst hd; refine cond_b (fun hc => ?_) (fun hc => ?_)
        ·first | (simp at hc; done) |
          (
          (try simp at hc); (try have hcx0 := inR_t.1 hc); (try have hcx1 := isV_t.1 hc); have ho : okEdge (ix es i) = false := by clear hM; simp_all [okEdge, isV] <;> omega
          have hM : allEdge es = false := by rw [hM, ho]; rfl
          refine Runs.cseq ?_; refine Runs.regO (.inl rfl) nzc (fun R hR => ?_); simp (disch := omega) [if_t, hn, s0, s3]; refine hR _ _ _ (by simp) ?_; clear hR R; refine Runs.ret ?_; dsimp only [thenQ, blockQ]; refine ⟨by simp, by simp (disch := omega) [hE1] <;> omega, ?_⟩
          simp (disch := omega) [if_t, hn, s0, s3, resD, resL, resV] <;> (first | omega | (simp_all [validE, allEdge]; done) | (simp_all [validE, allEdge] <;> omega)))
        ·first | (simp at hc; done) |
          (
          (try simp at hc); (try have hcx0 := inR_t.1 hc); (try have hcx1 := isV_t.1 hc); have ho : okEdge (ix es i) = true := by clear hM; simp_all [okEdge, isV] <;> omega
          rw [ho, Bool.true_and] at hM; refine Runs.skip ?_; refine Runs.regO (.inl rfl) nzc (fun R hR => ?_); simp (disch := omega) [if_t, hn, s0, s3]; refine hR _ _ _ (by simp) ?_; clear hR R; dsimp only [thenQ, blockQ]; refine ⟨k1 - 1, by omega, i + 1, ?_, ?_, ?_, ?_, ?_, ?_⟩
          ·omega
          ·simp (disch := omega) [hE1] <;> omega
          ·simp (disch := omega) [if_t, hn, s0, s3]
          ·simp (disch := omega) [if_t, hn, s0, s3]
          ·first | omega | assumption
          ·rw [hM])))
     ·first | (simp at hc; done) |
       (
       (try simp at hc); (try have hcx0 := inR_t.1 hc); (try have hcx1 := isV_t.1 hc); rw [List.drop_of_length_le (by omega)] at hM; refine Runs.exit ?_; refine Runs.cseq ?_; refine Runs.regO (.inl rfl) nzc (fun R hR => ?_); simp (disch := omega) [if_t, hn, s0, s3]; refine hR _ _ _ (by simp) ?_; clear hR R; refine Runs.ret ?_; dsimp only [thenQ, blockQ]; refine ⟨by simp, by simp (disch := omega) [hE1] <;> omega, ?_⟩
       simp (disch := omega) [if_t, hn, s0, s3, resD, resL, resV] <;> (first | omega | (simp_all [validE, allEdge]; done) | (simp_all [validE, allEdge] <;> omega)))
    ·skip
     refine ⟨0, ?_, ?_, ?_, ?_, ?_, ?_⟩
     ·omega
     ·simp
     ·simp (disch := omega) [if_t, hn]
     ·simp (disch := omega) [if_t, hn]
     ·first | omega | simp | rfl
     ·rfl))

def edgesOk (es : List Ent) : List Int → Bool
  | a :: b :: rest => !(decide (wOf es [a, b] = 0)) && edgesOk es (b :: rest)
  | _ => true
def preP (es : List Ent) (p : List Int) (x y : Int) : Bool := validE es && (inR p.length 2 60 && (decide (ix p 0 = x) && decide (ix p (p.length - 1) = y)))
def pathOk (es : List Ent) (x y : Int) (p : List Int) : Bool := preP es p x y && edgesOk es p
theorem two_slice {xs : List Int} {i : Nat} (h : i + 1 < xs.length) : (xs.take (i + 2)).drop i = [ix xs i, ix xs (i + 1)] := by
  rw [List.drop_take, show i + 2 - i = 2 by omega, drop_ix (by omega), drop_ix h]; rfl

set_option maxHeartbeats 1000000 in
/-- cmp.isNaN[int] -/
@[simp] theorem c_cmp_isNaN_int (x : Int) (n : Nat) (hn : n ≠ 0)  : cfg.call 108 [ci x] n = some (bi false, n, []) := by
 refine call_runs0 rfl Try.func108 rfl (by kernel_rfl) rfl (by simp (disch := omega) [low_agg, low_pt, low_fn]) ?_; refine Runs.cseq ?_; refine Runs.regO (.inl rfl) nzc (fun R hR => ?_); simp (disch := omega) [if_t, hn]; refine hR _ _ _ (by simp) ?_; clear hR R; refine Runs.cseq ?_; refine Runs.regO (.inl rfl) nzc (fun R hR => ?_); simp (disch := omega) [if_t, hn]; refine hR _ _ _ (by simp) ?_; clear hR R; refine Runs.ret ?_; dsimp only [thenQ, blockQ]; refine ⟨by simp, by simp (disch := omega) <;> omega, ?_⟩
 simp (disch := omega) [if_t, hn, resD, resL, resV] <;> (first | omega | (simp_all; done) | (simp_all <;> omega))

def cmpI (x y : Int) : Int := if x < y then -1 else if y < x then 1 else 0
def cmpL : List Int → List Int → Int
  | [], [] => 0
  | [], _ :: _ => -1
  | _ :: _, [] => 1
  | x :: xs, y :: ys => if cmpI x y = 0 then cmpL xs ys else cmpI x y

set_option maxHeartbeats 1000000 in
/-- cmp.Compare[int] -/
@[simp] theorem c_cmp_Compare_int (x y : Int) (n : Nat) (hn : n ≠ 0)  : cfg.call 103 [ci x, ci y] n = some (ci (cmpI x y), n, []) := by
 refine call_runs0 rfl Try.func103 rfl (by kernel_rfl) rfl (by simp (disch := omega) [low_agg, low_pt, low_fn]) ?_; refine Runs.cseq ?_; refine Runs.regO (.inl rfl) nzc (fun R hR => ?_); simp (disch := omega) [if_t, hn]; refine hR _ _ _ (by simp) ?_; clear hR R; refine Runs.cseq ?_; refine Runs.regO (.inl rfl) nzc (fun R hR => ?_); simp (disch := omega) [if_t, hn]; refine hR _ _ _ (by simp) ?_; clear hR R; refine Runs.cseq ?_; refine Runs.regO (.inl rfl) nzc (fun R hR => ?_); simp (disch := omega) [if_t, hn]; refine hR _ _ _ (by simp) ?_; clear hR R; refine Runs.cseq ?_; refine Runs.cseq ?_; refine Runs.regO (.inl rfl) nzc (fun R hR => ?_); simp (disch := omega) [if_t, hn]; refine hR _ _ _ (by simp) ?_; clear hR R; refine Runs.condI fun d hd => ?_; simp (disch := omega) [if_t, hn] at hd; subst hd; refine cond_b (fun hc => ?_) (fun hc => ?_)
 ·first | (simp at hc; done) |
   (
   (try simp at hc); (try have hcx0 := inR_t.1 hc); (try have hcx1 := isV_t.1 hc); refine Runs.cseq ?_; refine Runs.cseq ?_; refine Runs.regO (.inl rfl) nzc (fun R hR => ?_); simp (disch := omega) [if_t, hn]; refine hR _ _ _ (by simp) ?_; clear hR R; refine Runs.condI fun d hd => ?_; simp (disch := omega) [if_t, hn] at hd; subst hd; refine cond_b (fun hc => ?_) (fun hc => ?_)
   ·first | (simp at hc; done) |
     (
     (try simp at hc); (try have hcx0 := inR_t.1 hc); (try have hcx1 := isV_t.1 hc); refine Runs.cseq ?_; refine Runs.regO (.inl rfl) nzc (fun R hR => ?_); simp (disch := omega) [if_t, hn]; refine hR _ _ _ (by simp) ?_; clear hR R; refine Runs.ret ?_; dsimp only [thenQ, blockQ]; refine ⟨by simp, by simp (disch := omega) <;> omega, ?_⟩
     simp (disch := omega) [if_t, hn, resD, resL, resV] <;> (first | omega | (simp_all [cmpI]; done) | (simp_all [cmpI] <;> omega)))
   ·first | (simp at hc; done) |
     (
     (try simp at hc); (try have hcx0 := inR_t.1 hc); (try have hcx1 := isV_t.1 hc); refine Runs.skip ?_; refine Runs.cseq ?_; refine Runs.regO (.inl rfl) nzc (fun R hR => ?_); simp (disch := omega) [if_t, hn]; refine hR _ _ _ (by simp) ?_; clear hR R; refine Runs.ret ?_; dsimp only [thenQ, blockQ]; refine ⟨by simp, by simp (disch := omega) <;> omega, ?_⟩
     simp (disch := omega) [if_t, hn, resD, resL, resV] <;> (first | omega | (simp_all [cmpI]; done) | (simp_all [cmpI] <;> omega))))
 ·first | (simp at hc; done) |
   (
   (try simp at hc); (try have hcx0 := inR_t.1 hc); (try have hcx1 := isV_t.1 hc); refine Runs.skip ?_; refine Runs.cseq ?_; refine Runs.cseq ?_; refine Runs.regO (.inl rfl) nzc (fun R hR => ?_); simp (disch := omega) [if_t, hn]; refine hR _ _ _ (by simp) ?_; clear hR R; refine Runs.condI fun d hd => ?_; simp (disch := omega) [if_t, hn] at hd; subst hd; refine cond_b (fun hc => ?_) (fun hc => ?_)
   ·first | (simp at hc; done) |
     (
     (try simp at hc); (try have hcx0 := inR_t.1 hc); (try have hcx1 := isV_t.1 hc); refine Runs.cseq ?_; refine Runs.regO (.inl rfl) nzc (fun R hR => ?_); simp (disch := omega) [if_t, hn]; refine hR _ _ _ (by simp) ?_; clear hR R; refine Runs.ret ?_; dsimp only [thenQ, blockQ]; refine ⟨by simp, by simp (disch := omega) <;> omega, ?_⟩
     simp (disch := omega) [if_t, hn, resD, resL, resV] <;> (first | omega | (simp_all [cmpI]; done) | (simp_all [cmpI] <;> omega)))
   ·first | (simp at hc; done) |
     (
     (try simp at hc); (try have hcx0 := inR_t.1 hc); (try have hcx1 := isV_t.1 hc); refine Runs.skip ?_; refine Runs.cseq ?_; refine Runs.cseq ?_; refine Runs.regO (.inl rfl) nzc (fun R hR => ?_); simp (disch := omega) [if_t, hn]; refine hR _ _ _ (by simp) ?_; clear hR R; refine Runs.condI fun d hd => ?_; simp (disch := omega) [if_t, hn] at hd; subst hd; refine cond_b (fun hc => ?_) (fun hc => ?_)
     ·first | (simp at hc; done) |
       (
       (try simp at hc); (try have hcx0 := inR_t.1 hc); (try have hcx1 := isV_t.1 hc); refine Runs.cseq ?_; refine Runs.regO (.inl rfl) nzc (fun R hR => ?_); simp (disch := omega) [if_t, hn]; refine hR _ _ _ (by simp) ?_; clear hR R; refine Runs.ret ?_; dsimp only [thenQ, blockQ]; refine ⟨by simp, by simp (disch := omega) <;> omega, ?_⟩
       simp (disch := omega) [if_t, hn, resD, resL, resV] <;> (first | omega | (simp_all [cmpI]; done) | (simp_all [cmpI] <;> omega)))
     ·first | (simp at hc; done) |
       (
       (try simp at hc); (try have hcx0 := inR_t.1 hc); (try have hcx1 := isV_t.1 hc); refine Runs.skip ?_; refine Runs.cseq ?_; refine Runs.cseq ?_; refine Runs.regO (.inl rfl) nzc (fun R hR => ?_); simp (disch := omega) [if_t, hn]; refine hR _ _ _ (by simp) ?_; clear hR R; refine Runs.condI fun d hd => ?_; simp (disch := omega) [if_t, hn] at hd; subst hd; refine cond_b (fun hc => ?_) (fun hc => ?_)
       ·first | (simp at hc; done) |
         (
         (try simp at hc); (try have hcx0 := inR_t.1 hc); (try have hcx1 := isV_t.1 hc); refine Runs.cseq ?_; refine Runs.regO (.inl rfl) nzc (fun R hR => ?_); simp (disch := omega) [if_t, hn]; refine hR _ _ _ (by simp) ?_; clear hR R; refine Runs.ret ?_; dsimp only [thenQ, blockQ]; refine ⟨by simp, by simp (disch := omega) <;> omega, ?_⟩
         simp (disch := omega) [if_t, hn, resD, resL, resV] <;> (first | omega | (simp_all [cmpI]; done) | (simp_all [cmpI] <;> omega)))
       ·first | (simp at hc; done) |
         (
         (try simp at hc); (try have hcx0 := inR_t.1 hc); (try have hcx1 := isV_t.1 hc); refine Runs.skip ?_; refine Runs.cseq ?_; refine Runs.regO (.inl rfl) nzc (fun R hR => ?_); simp (disch := omega) [if_t, hn]; refine hR _ _ _ (by simp) ?_; clear hR R; refine Runs.ret ?_; dsimp only [thenQ, blockQ]; refine ⟨by simp, by simp (disch := omega) <;> omega, ?_⟩
         simp (disch := omega) [if_t, hn, resD, resL, resV] <;> (first | omega | (simp_all [cmpI]; done) | (simp_all [cmpI] <;> omega))))))

set_option maxHeartbeats 1000000 in
/-- slices.Compare[[]int,int] -/
@[simp] theorem c_slices_Compare_sint_int (xs ys : List Int) (n : Nat) (hn : n ≠ 0) (p0 : sizL xs ≤ 1152921504606846976) : cfg.call 97 [cl xs, cl ys] n = some (ci (cmpL xs ys), n, []) := by
 refine call_runs0 rfl Try.func97 rfl (by kernel_rfl) rfl (by simp (disch := omega) [low_agg, low_pt, low_fn]) ?_; have hl_xs := len_siz xs
 refine Runs.cseq ?_; refine Runs.regO (.inl rfl) nzc (fun R hR => ?_); simp (disch := omega) [if_t, hn]; refine hR _ _ _ (by simp) ?_; clear hR R; refine Runs.cseq ?_; refine Runs.cseq ?_; refine Runs.regO (.inl rfl) nzc (fun R hR => ?_); simp (disch := omega) [if_t, hn]; refine hR _ _ _ (by simp) ?_; clear hR R; refine Runs.cblock ?_; refine Runs.loop (fun k fr n' E => ∃ (i : Nat), n ≤ n' ∧ Go.Cv.Loc n E ∧ fr 0 = cl xs ∧ fr 1 = cl ys ∧ fr 9 = cl xs ∧ fr 10 = ci (xs.length : Int) ∧ fr 11 = ci (i : Int) ∧ i + k = xs.length ∧ cmpL xs ys = cmpL (xs.drop i) (ys.drop i) ∧ i ≤ ys.length) ?_ (k := xs.length) ?_
 ·rintro k1 fr n1 E1 ⟨i, hn1, hE1, s0, s1, s9, s10, s11, hk, hM, hi⟩
  have hz1 : n1 ≠ 0 := by omega
  refine Runs.cseq ?_; refine Runs.regO (.inl rfl) nzc (fun R hR => ?_); simp (disch := omega) [if_t, hn, s0, s1, s9, s10, s11]; refine hR _ _ _ (by simp) ?_; clear hR R; refine Runs.cseq ?_; refine Runs.condI fun d hd => ?_; simp (disch := omega) [if_t, hn, s0, s1, s9, s10, s11] at hd; subst hd; refine cond_b (fun hc => ?_) (fun hc => ?_)
  ·first | (simp at hc; done) |
    (
    (try simp at hc); (try have hcx0 := inR_t.1 hc); (try have hcx1 := isV_t.1 hc); have hsz := siz_ix hc
    (try simp at hsz); rw [drop_ix hc] at hM; refine Runs.skip ?_; refine Runs.cseq ?_; refine Runs.cblock ?_; refine Runs.cseq ?_; refine Runs.regO (.inl rfl) nzc (fun R hR => ?_); simp (disch := omega) [if_t, hn, s0, s1, s9, s10, s11]; refine hR _ _ _ (by simp) ?_; clear hR R; refine Runs.cseq ?_; refine Runs.cseq ?_; refine Runs.regO (.inl rfl) nzc (fun R hR => ?_); simp (disch := omega) [if_t, hn, s0, s1, s9, s10, s11]; refine hR _ _ _ (by simp) ?_; clear hR R; refine Runs.condI fun d hd => ?_; simp (disch := omega) [if_t, hn, s0, s1, s9, s10, s11] at hd; subst hd; refine cond_b (fun hc => ?_) (fun hc => ?_)
    ·first | (simp at hc; done) |
      (
      (try simp at hc); (try have hcx0 := inR_t.1 hc); (try have hcx1 := isV_t.1 hc); rw [List.drop_of_length_le (l := ys) (i := i) (by omega), cmpL] at hM; refine Runs.cseq ?_; refine Runs.regO (.inl rfl) nzc (fun R hR => ?_); simp (disch := omega) [if_t, hn, s0, s1, s9, s10, s11]; refine hR _ _ _ (by simp) ?_; clear hR R; refine Runs.ret ?_; dsimp only [thenQ, blockQ]; refine ⟨by simp, by simp (disch := omega) [hE1] <;> omega, ?_⟩
      simp (disch := omega) [if_t, hn, s0, s1, s9, s10, s11, resD, resL, resV] <;> (first | omega | (simp_all; done) | (simp_all <;> omega)))
    ·first | (simp at hc; done) |
      (
      (try simp at hc); (try have hcx0 := inR_t.1 hc); (try have hcx1 := isV_t.1 hc); rw [drop_ix (xs := ys) (i := i) (by omega), cmpL] at hM; refine Runs.skip ?_; refine Runs.cseq ?_; refine Runs.regO (.inl rfl) nzc (fun R hR => ?_); simp (disch := omega) [if_t, hn, s0, s1, s9, s10, s11]; refine hR _ _ _ (by simp) ?_; clear hR R; refine Runs.cseq ?_; refine Runs.regO (.inl rfl) nzc (fun R hR => ?_); simp (disch := omega) [if_t, hn, s0, s1, s9, s10, s11]; refine hR _ _ _ (by simp) ?_; clear hR R; refine Runs.cseq ?_; refine Runs.regO (.inl rfl) nzc (fun R hR => ?_); simp (disch := omega) [if_t, hn, s0, s1, s9, s10, s11]; refine hR _ _ _ (by simp) ?_; clear hR R; refine Runs.condI fun d hd => ?_; simp (disch := omega) [if_t, hn, s0, s1, s9, s10, s11] at hd; subst hd; refine cond_b (fun hc => ?_) (fun hc => ?_)
      ·first | (simp at hc; done) |
        (
        (try simp at hc); (try have hcx0 := inR_t.1 hc); (try have hcx1 := isV_t.1 hc); rw [if_neg hc] at hM; refine Runs.cseq ?_; refine Runs.regO (.inl rfl) nzc (fun R hR => ?_); simp (disch := omega) [if_t, hn, s0, s1, s9, s10, s11]; refine hR _ _ _ (by simp) ?_; clear hR R; refine Runs.ret ?_; dsimp only [thenQ, blockQ]; refine ⟨by simp, by simp (disch := omega) [hE1] <;> omega, ?_⟩
        simp (disch := omega) [if_t, hn, s0, s1, s9, s10, s11, resD, resL, resV] <;> (first | omega | (simp_all; done) | (simp_all <;> omega)))
      ·first | (simp at hc; done) |
        (
        (try simp at hc); (try have hcx0 := inR_t.1 hc); (try have hcx1 := isV_t.1 hc); rw [if_pos hc] at hM; refine Runs.skip ?_; refine Runs.regO (.inl rfl) nzc (fun R hR => ?_); simp (disch := omega) [if_t, hn, s0, s1, s9, s10, s11]; refine hR _ _ _ (by simp) ?_; clear hR R; dsimp only [thenQ, blockQ]; refine ⟨k1 - 1, by omega, i + 1, ?_, ?_, ?_, ?_, ?_, ?_, ?_, ?_, ?_, ?_⟩
        ·omega
        ·simp (disch := omega) [hE1] <;> omega
        ·simp (disch := omega) [if_t, hn, s0, s1, s9, s10, s11]
        ·simp (disch := omega) [if_t, hn, s0, s1, s9, s10, s11]
        ·simp (disch := omega) [if_t, hn, s0, s1, s9, s10, s11]
        ·simp (disch := omega) [if_t, hn, s0, s1, s9, s10, s11]
        ·simp (disch := omega) [if_t, hn, s0, s1, s9, s10, s11]
        ·first | omega | assumption
        ·rw [hM]
        ·first | omega | assumption)))
  ·first | (simp at hc; done) |
    (
    (try simp at hc); (try have hcx0 := inR_t.1 hc); (try have hcx1 := isV_t.1 hc); rw [List.drop_of_length_le (by omega)] at hM; refine Runs.exit ?_; refine Runs.cseq ?_; refine Runs.cseq ?_; refine Runs.regO (.inl rfl) nzc (fun R hR => ?_); simp (disch := omega) [if_t, hn, s0, s1, s9, s10, s11]; refine hR _ _ _ (by simp) ?_; clear hR R; refine Runs.condI fun d hd => ?_; simp (disch := omega) [if_t, hn, s0, s1, s9, s10, s11] at hd; subst hd; refine cond_b (fun hc => ?_) (fun hc => ?_)
    ·first | (simp at hc; done) |
      (
      (try simp at hc); (try have hcx0 := inR_t.1 hc); (try have hcx1 := isV_t.1 hc); rw [drop_ix (xs := ys) (i := i) (by omega), cmpL] at hM; refine Runs.cseq ?_; refine Runs.regO (.inl rfl) nzc (fun R hR => ?_); simp (disch := omega) [if_t, hn, s0, s1, s9, s10, s11]; refine hR _ _ _ (by simp) ?_; clear hR R; refine Runs.ret ?_; dsimp only [thenQ, blockQ]; refine ⟨by simp, by simp (disch := omega) [hE1] <;> omega, ?_⟩
      simp (disch := omega) [if_t, hn, s0, s1, s9, s10, s11, resD, resL, resV] <;> (first | omega | (simp_all; done) | (simp_all <;> omega)))
    ·first | (simp at hc; done) |
      (
      (try simp at hc); (try have hcx0 := inR_t.1 hc); (try have hcx1 := isV_t.1 hc); rw [List.drop_of_length_le (l := ys) (by omega), cmpL] at hM; refine Runs.skip ?_; refine Runs.cseq ?_; refine Runs.regO (.inl rfl) nzc (fun R hR => ?_); simp (disch := omega) [if_t, hn, s0, s1, s9, s10, s11]; refine hR _ _ _ (by simp) ?_; clear hR R; refine Runs.ret ?_; dsimp only [thenQ, blockQ]; refine ⟨by simp, by simp (disch := omega) [hE1] <;> omega, ?_⟩
      simp (disch := omega) [if_t, hn, s0, s1, s9, s10, s11, resD, resL, resV] <;> (first | omega | (simp_all; done) | (simp_all <;> omega))))
 ·skip
  refine ⟨0, ?_, ?_, ?_, ?_, ?_, ?_, ?_, ?_, ?_, ?_⟩
  ·omega
  ·simp
  ·simp (disch := omega) [if_t, hn]
  ·simp (disch := omega) [if_t, hn]
  ·simp (disch := omega) [if_t, hn]
  ·simp (disch := omega) [if_t, hn]
  ·simp (disch := omega) [if_t, hn]
  ·first | omega | simp | rfl
  ·rfl
  ·first | omega | simp | rfl

set_option maxHeartbeats 1000000 in
/-- impl.RowLess -/
@[simp] theorem c_impl_RowLess (xs ys : List Int) (n : Nat) (hn : n ≠ 0) (p0 : sizL xs ≤ 1152921504606846976) : cfg.call 90 [cl xs, cl ys] n = some (bi (decide (cmpL xs ys < 0)), n, []) := by
 refine call_runs0 rfl Try.func90 rfl (by kernel_rfl) rfl (by simp (disch := omega) [low_agg, low_pt, low_fn]) ?_; refine Runs.cseq ?_; refine Runs.regO (.inl rfl) nzc (fun R hR => ?_); simp (disch := omega) [if_t, hn]; refine hR _ _ _ (by simp) ?_; clear hR R; refine Runs.cseq ?_; refine Runs.regO (.inl rfl) nzc (fun R hR => ?_); simp (disch := omega) [if_t, hn]; refine hR _ _ _ (by simp) ?_; clear hR R; refine Runs.ret ?_; dsimp only [thenQ, blockQ]; refine ⟨by simp, by simp (disch := omega) <;> omega, ?_⟩
 simp (disch := omega) [if_t, hn, resD, resL, resV] <;> (first | omega | (simp_all; done) | (simp_all <;> omega))

theorem cmpL_lt : ∀ xs ys : List Int, decide (cmpL xs ys < 0) = rowLess xs ys
  | [], [] => by simp [cmpL, rowLess]
  | [], y :: ys => by simp [cmpL, rowLess]
  | x :: xs, [] => by simp [cmpL, rowLess]
  | x :: xs, y :: ys => by
    rw [cmpL, rowLess]
    by_cases h : x = y
    · subst h
      have h0 : cmpI x x = 0 := by simp [cmpI]
      rw [if_pos h0, if_pos rfl]
      exact cmpL_lt xs ys
    · by_cases h1 : x < y
      · simp [cmpI, h1, h]
      · have h2 : y < x := by omega
        simp [cmpI, h1, h2, h]
theorem cmpL_lt' (xs ys : List Int) : decide (cmpL xs ys < 0) = rowLess xs ys := cmpL_lt xs ys

set_option maxHeartbeats 1000000 in
/-- impl.ValidRow -/
@[simp] theorem c_impl_ValidRow (xs : List Int) (n : Nat) (hn : n ≠ 0) (p0 : sizL xs ≤ 1152921504606846976) : cfg.call 81 [cl xs] n = some (bi (validRow xs), n, []) := by
 refine call_runs0 rfl Try.func81 rfl (by kernel_rfl) rfl (by simp (disch := omega) [low_agg, low_pt, low_fn]) ?_; have hl_xs := len_siz xs
 refine Runs.cseq ?_; refine Runs.regO (.inl rfl) nzc (fun R hR => ?_); simp (disch := omega) [if_t, hn]; refine hR _ _ _ (by simp) ?_; clear hR R; refine Runs.cseq ?_; refine Runs.cseq ?_; refine Runs.regO (.inl rfl) nzc (fun R hR => ?_); simp (disch := omega) [if_t, hn]; refine hR _ _ _ (by simp) ?_; clear hR R; refine Runs.cblock ?_; refine Runs.loop (fun k fr n' E => ∃ (i : Nat), n ≤ n' ∧ Go.Cv.Loc n E ∧ fr 0 = cl xs ∧ fr 5 = cl xs ∧ fr 6 = ci (xs.length : Int) ∧ fr 7 = ci (i : Int) ∧ i + k = xs.length ∧ allOk xs = allOk (xs.drop i)) ?_ (k := xs.length) ?_
 ·rintro k1 fr n1 E1 ⟨i, hn1, hE1, s0, s5, s6, s7, hk, hM⟩
  have hz1 : n1 ≠ 0 := by omega
  refine Runs.cseq ?_; refine Runs.regO (.inl rfl) nzc (fun R hR => ?_); simp (disch := omega) [if_t, hn, s0, s5, s6, s7]; refine hR _ _ _ (by simp) ?_; clear hR R; refine Runs.cseq ?_; refine Runs.condI fun d hd => ?_; simp (disch := omega) [if_t, hn, s0, s5, s6, s7] at hd; subst hd; refine cond_b (fun hc => ?_) (fun hc => ?_)
  ·first | (simp at hc; done) |
    (
    (try simp at hc); (try have hcx0 := inR_t.1 hc); (try have hcx1 := isV_t.1 hc); have hsz := siz_ix hc
    (try simp at hsz); rw [drop_ix hc] at hM; rw [allOk] at hM; refine Runs.skip ?_; refine Runs.cseq ?_; refine Runs.cblock ?_; refine Runs.cseq ?_; refine Runs.regO (.inl rfl) nzc (fun R hR => ?_); simp (disch := omega) [if_t, hn, s0, s5, s6, s7]; refine hR _ _ _ (by simp) ?_; clear hR R; refine Runs.cseq ?_; refine Runs.regO (.inl rfl) nzc (fun R hR => ?_); repeat' (first | (simp (disch := omega) [if_t, hn, s0, s5, s6, s7]) | (with_reducible refine RunsW.splitN (fun hb => ?_) (fun hb => ?_) <;> (try simp only [hb]) <;> (try simp at hb) <;> (try have hx0 := inR_t.1 hb) <;> (try have hx1 := isV_t.1 hb)) | (with_reducible refine RunsW.split (fun hb => ?_) (fun hb => ?_) <;> (try simp only [hb]) <;> (try simp at hb) <;> (try have hx0 := inR_t.1 hb) <;> (try have hx1 := isV_t.1 hb)))
    all_goals (
     refine hR _ _ _ (by simp) ?_; clear hR R; refine Runs.condI fun d hd => ?_; simp (disch := omega) [if_t, hn, s0, s5, s6, s7] at hd; subst hd; refine cond_b (fun hc => ?_) (fun hc => ?_)
     ·first | (simp at hc; done) |
       (
       (try simp at hc); (try have hcx0 := inR_t.1 hc); (try have hcx1 := isV_t.1 hc); have ho : okNum (ix xs i) = false := by clear hM; simp_all [okNum, inR] <;> omega
       have hM : allOk xs = false := by rw [hM, ho]; rfl
       refine Runs.cseq ?_; refine Runs.regO (.inl rfl) nzc (fun R hR => ?_); simp (disch := omega) [if_t, hn, s0, s5, s6, s7]; refine hR _ _ _ (by simp) ?_; clear hR R; refine Runs.ret ?_; dsimp only [thenQ, blockQ]; refine ⟨by simp, by simp (disch := omega) [hE1] <;> omega, ?_⟩
       simp (disch := omega) [if_t, hn, s0, s5, s6, s7, resD, resL, resV] <;> (first | omega | (simp_all [validRow, allOk, inR]; done) | (simp_all [validRow, allOk, inR] <;> omega)))
     ·first | (simp at hc; done) |
       (
       (try simp at hc); (try have hcx0 := inR_t.1 hc); (try have hcx1 := isV_t.1 hc); have ho : okNum (ix xs i) = true := by clear hM; simp_all [okNum, inR] <;> omega
       rw [ho, Bool.true_and] at hM; refine Runs.skip ?_; refine Runs.regO (.inl rfl) nzc (fun R hR => ?_); simp (disch := omega) [if_t, hn, s0, s5, s6, s7]; refine hR _ _ _ (by simp) ?_; clear hR R; dsimp only [thenQ, blockQ]; refine ⟨k1 - 1, by omega, i + 1, ?_, ?_, ?_, ?_, ?_, ?_, ?_, ?_⟩
       ·omega
       ·simp (disch := omega) [hE1] <;> omega
       ·simp (disch := omega) [if_t, hn, s0, s5, s6, s7]
       ·simp (disch := omega) [if_t, hn, s0, s5, s6, s7]
       ·simp (disch := omega) [if_t, hn, s0, s5, s6, s7]
       ·simp (disch := omega) [if_t, hn, s0, s5, s6, s7]
       ·first | omega | assumption
       ·rw [hM])))
  ·first | (simp at hc; done) |
    (
    (try simp at hc); (try have hcx0 := inR_t.1 hc); (try have hcx1 := isV_t.1 hc); rw [List.drop_of_length_le (by omega)] at hM; refine Runs.exit ?_; refine Runs.cseq ?_; refine Runs.regO (.inl rfl) nzc (fun R hR => ?_); repeat' (first | (simp (disch := omega) [if_t, hn, s0, s5, s6, s7]) | (with_reducible refine RunsW.splitN (fun hb => ?_) (fun hb => ?_) <;> (try simp only [hb]) <;> (try simp at hb) <;> (try have hx0 := inR_t.1 hb) <;> (try have hx1 := isV_t.1 hb)) | (with_reducible refine RunsW.split (fun hb => ?_) (fun hb => ?_) <;> (try simp only [hb]) <;> (try simp at hb) <;> (try have hx0 := inR_t.1 hb) <;> (try have hx1 := isV_t.1 hb)))
    all_goals (
     refine hR _ _ _ (by simp) ?_; clear hR R; refine Runs.ret ?_; dsimp only [thenQ, blockQ]; refine ⟨by simp, by simp (disch := omega) [hE1] <;> omega, ?_⟩
     simp (disch := omega) [if_t, hn, s0, s5, s6, s7, resD, resL, resV] <;> (first | omega | (simp_all [validRow, allOk, inR]; done) | (simp_all [validRow, allOk, inR] <;> omega))))
 ·skip
  refine ⟨0, ?_, ?_, ?_, ?_, ?_, ?_, ?_, ?_⟩
  ·omega
  ·simp
  ·simp (disch := omega) [if_t, hn]
  ·simp (disch := omega) [if_t, hn]
  ·simp (disch := omega) [if_t, hn]
  ·simp (disch := omega) [if_t, hn]
  ·first | omega | simp | rfl
  ·rfl

set_option maxHeartbeats 1000000 in
/-- impl.ValidZSet -/
@[simp] theorem c_impl_ValidZSet (es : List Ent) (n : Nat) (hn : n ≠ 0) (p0 : sizL es ≤ 1152921504606846976) : cfg.call 72 [cl es] n = some (bi (validZ es), n, []) := by
 refine call_runs0 rfl Try.func72 rfl (by kernel_rfl) rfl (by simp (disch := omega) [low_agg, low_pt, low_fn]) ?_; have hl_es := len_siz es
 refine Runs.cseq ?_; refine Runs.regO (.inl rfl) nzc (fun R hR => ?_); simp (disch := omega) [if_t, hn, cmpL_lt']; refine hR _ _ _ (by simp) ?_; clear hR R; refine Runs.cseq ?_; refine Runs.cseq ?_; refine Runs.regO (.inl rfl) nzc (fun R hR => ?_); simp (disch := omega) [if_t, hn, cmpL_lt']; refine hR _ _ _ (by simp) ?_; clear hR R; refine Runs.cblock ?_; refine Runs.loop (fun k fr n' E => ∃ (i : Nat), n ≤ n' ∧ Go.Cv.Loc n E ∧ fr 0 = cl es ∧ fr 5 = cl es ∧ fr 6 = ci (es.length : Int) ∧ fr 7 = ci (i : Int) ∧ i + k = es.length ∧ okFrom es 0 es.length = okFrom es i k) ?_ (k := es.length) ?_
 ·rintro k1 fr n1 E1 ⟨i, hn1, hE1, s0, s5, s6, s7, hk, hM⟩
  have hz1 : n1 ≠ 0 := by omega
  refine Runs.cseq ?_; refine Runs.regO (.inl rfl) nzc (fun R hR => ?_); simp (disch := omega) [if_t, hn, s0, s5, s6, s7, cmpL_lt']; refine hR _ _ _ (by simp) ?_; clear hR R; refine Runs.cseq ?_; refine Runs.condI fun d hd => ?_; simp (disch := omega) [if_t, hn, s0, s5, s6, s7, cmpL_lt'] at hd; subst hd; refine cond_b (fun hc => ?_) (fun hc => ?_)
  ·first | (simp at hc; done) |
    (
    (try simp at hc); (try have hcx0 := inR_t.1 hc); (try have hcx1 := isV_t.1 hc); have hsz := siz_ix hc
    simp at hsz; have hs0 := siz_ix (xs := es) (i := 0) (by omega)
    simp at hs0; have hs1 := siz_ix (xs := es) (i := i - 1) (by omega)
    simp at hs1; obtain ⟨k1, rfl⟩ : ∃ j, k1 = j + 1 := ⟨k1 - 1, by omega⟩
    rw [okFrom] at hM; refine Runs.skip ?_; refine Runs.cseq ?_; refine Runs.cblock ?_; refine Runs.cseq ?_; refine Runs.regO (.inl rfl) nzc (fun R hR => ?_); simp (disch := omega) [if_t, hn, s0, s5, s6, s7, cmpL_lt']; refine hR _ _ _ (by simp) ?_; clear hR R; refine Runs.cseq ?_; refine Runs.regO (.inr (by kernel_rfl)) nzc (fun R hR => ?_); repeat' (first | (simp (disch := omega) [if_t, hn, s0, s5, s6, s7, cmpL_lt']) | (with_reducible refine RunsW.splitN (fun hb => ?_) (fun hb => ?_) <;> (try simp only [hb]) <;> (try simp at hb) <;> (try have hx0 := inR_t.1 hb) <;> (try have hx1 := isV_t.1 hb)) | (with_reducible refine RunsW.split (fun hb => ?_) (fun hb => ?_) <;> (try simp only [hb]) <;> (try simp at hb) <;> (try have hx0 := inR_t.1 hb) <;> (try have hx1 := isV_t.1 hb)))
    all_goals (
     refine hR _ _ _ (by simp) ?_; clear hR R; refine Runs.condI fun d hd => ?_; simp (disch := omega) [if_t, hn, s0, s5, s6, s7, cmpL_lt'] at hd; subst hd; refine cond_b (fun hc => ?_) (fun hc => ?_)
     ·first | (simp at hc; done) |
       (
       (try simp at hc); (try have hcx0 := inR_t.1 hc); (try have hcx1 := isV_t.1 hc); have ho : okEnt es i = false := by clear hM; simp_all [okEnt, inR] <;> omega
       have hM : okFrom es 0 es.length = false := by rw [hM, ho]; rfl
       refine Runs.cseq ?_; refine Runs.regO (.inl rfl) nzc (fun R hR => ?_); simp (disch := omega) [if_t, hn, s0, s5, s6, s7, cmpL_lt']; refine hR _ _ _ (by simp) ?_; clear hR R; refine Runs.ret ?_; dsimp only [thenQ, blockQ]; refine ⟨by simp, by simp (disch := omega) [hE1] <;> omega, ?_⟩
       simp (disch := omega) [if_t, hn, s0, s5, s6, s7, cmpL_lt', resD, resL, resV] <;> (first | omega | (simp_all [validZ]; done) | (simp_all [validZ] <;> omega)))
     ·first | (simp at hc; done) |
       (
       (try simp at hc); (try have hcx0 := inR_t.1 hc); (try have hcx1 := isV_t.1 hc); have ho : okEnt es i = true := by clear hM; simp_all [okEnt, inR] <;> omega
       rw [ho, Bool.true_and] at hM; refine Runs.skip ?_; refine Runs.regO (.inl rfl) nzc (fun R hR => ?_); simp (disch := omega) [if_t, hn, s0, s5, s6, s7, cmpL_lt']; refine hR _ _ _ (by simp) ?_; clear hR R; dsimp only [thenQ, blockQ]; refine ⟨k1, by omega, i + 1, ?_, ?_, ?_, ?_, ?_, ?_, ?_, ?_⟩
       ·omega
       ·simp (disch := omega) [hE1] <;> omega
       ·simp (disch := omega) [if_t, hn, s0, s5, s6, s7, cmpL_lt']
       ·simp (disch := omega) [if_t, hn, s0, s5, s6, s7, cmpL_lt']
       ·simp (disch := omega) [if_t, hn, s0, s5, s6, s7, cmpL_lt']
       ·simp (disch := omega) [if_t, hn, s0, s5, s6, s7, cmpL_lt']
       ·first | omega | assumption
       ·rw [hM])))
  ·first | (simp at hc; done) |
    (
    (try simp at hc); (try have hcx0 := inR_t.1 hc); (try have hcx1 := isV_t.1 hc); obtain rfl : k1 = 0 := by omega
    rw [okFrom] at hM; refine Runs.exit ?_; refine Runs.cseq ?_; refine Runs.regO (.inl rfl) nzc (fun R hR => ?_); simp (disch := omega) [if_t, hn, s0, s5, s6, s7, cmpL_lt']; refine hR _ _ _ (by simp) ?_; clear hR R; refine Runs.ret ?_; dsimp only [thenQ, blockQ]; refine ⟨by simp, by simp (disch := omega) [hE1] <;> omega, ?_⟩
    simp (disch := omega) [if_t, hn, s0, s5, s6, s7, cmpL_lt', resD, resL, resV] <;> (first | omega | (simp_all [validZ]; done) | (simp_all [validZ] <;> omega)))
 ·skip
  refine ⟨0, ?_, ?_, ?_, ?_, ?_, ?_, ?_, ?_⟩
  ·omega
  ·simp
  ·simp (disch := omega) [if_t, hn, cmpL_lt']
  ·simp (disch := omega) [if_t, hn, cmpL_lt']
  ·simp (disch := omega) [if_t, hn, cmpL_lt']
  ·simp (disch := omega) [if_t, hn, cmpL_lt']
  ·first | omega | simp | rfl
  ·rfl

set_option maxHeartbeats 1000000 in
/-- impl.IsSet -/
@[simp] theorem c_impl_IsSet (es : List Ent) (n : Nat) (hn : n ≠ 0) (p0 : sizL es ≤ 1152921504606846976) : cfg.call 55 [cl es] n = some (bi (allSet es && validZ es), n, []) := by
 refine call_runs0 rfl Try.func55 rfl (by kernel_rfl) rfl (by simp (disch := omega) [low_agg, low_pt, low_fn]) ?_; have hl_es := len_siz es
 refine Runs.cseq ?_; refine Runs.regO (.inl rfl) nzc (fun R hR => ?_); simp (disch := omega) [if_t, hn]; refine hR _ _ _ (by simp) ?_; clear hR R; refine Runs.cseq ?_; refine Runs.cseq ?_; refine Runs.regO (.inl rfl) nzc (fun R hR => ?_); simp (disch := omega) [if_t, hn]; refine hR _ _ _ (by simp) ?_; clear hR R; refine Runs.cblock ?_; refine Runs.loop (fun k fr n' E => ∃ (i : Nat), n ≤ n' ∧ Go.Cv.Loc n E ∧ fr 0 = cl es ∧ fr 5 = cl es ∧ fr 6 = ci (es.length : Int) ∧ fr 7 = ci (i : Int) ∧ i + k = es.length ∧ allSet es = allSet (es.drop i)) ?_ (k := es.length) ?_
 ·rintro k1 fr n1 E1 ⟨i, hn1, hE1, s0, s5, s6, s7, hk, hM⟩
  have hz1 : n1 ≠ 0 := by omega
  refine Runs.cseq ?_; refine Runs.regO (.inl rfl) nzc (fun R hR => ?_); simp (disch := omega) [if_t, hn, s0, s5, s6, s7]; refine hR _ _ _ (by simp) ?_; clear hR R; refine Runs.cseq ?_; refine Runs.condI fun d hd => ?_; simp (disch := omega) [if_t, hn, s0, s5, s6, s7] at hd; subst hd; refine cond_b (fun hc => ?_) (fun hc => ?_)
  ·first | (simp at hc; done) |
    (
    (try simp at hc); (try have hcx0 := inR_t.1 hc); (try have hcx1 := isV_t.1 hc); have hsz := siz_ix hc
    (try simp at hsz); rw [drop_ix hc] at hM; rw [allSet] at hM; refine Runs.skip ?_; refine Runs.cseq ?_; refine Runs.cblock ?_; refine Runs.cseq ?_; refine Runs.regO (.inl rfl) nzc (fun R hR => ?_); simp (disch := omega) [if_t, hn, s0, s5, s6, s7]; refine hR _ _ _ (by simp) ?_; clear hR R; refine Runs.cseq ?_; refine Runs.regO (.inl rfl) nzc (fun R hR => ?_); simp (disch := omega) [if_t, hn, s0, s5, s6, s7]; refine hR _ _ _ (by simp) ?_; clear hR R; refine Runs.condI fun d hd => ?_; simp (disch := omega) [if_t, hn, s0, s5, s6, s7] at hd; subst hd; refine cond_b (fun hc => ?_) (fun hc => ?_)
    ·first | (simp at hc; done) |
      (
      (try simp at hc); (try have hcx0 := inR_t.1 hc); (try have hcx1 := isV_t.1 hc); rw [decide_eq_false hc, Bool.false_and] at hM; refine Runs.cseq ?_; refine Runs.regO (.inl rfl) nzc (fun R hR => ?_); simp (disch := omega) [if_t, hn, s0, s5, s6, s7]; refine hR _ _ _ (by simp) ?_; clear hR R; refine Runs.ret ?_; dsimp only [thenQ, blockQ]; refine ⟨by simp, by simp (disch := omega) [hE1] <;> omega, ?_⟩
      simp (disch := omega) [if_t, hn, s0, s5, s6, s7, resD, resL, resV] <;> (first | omega | (simp_all [allSet]; done) | (simp_all [allSet] <;> omega)))
    ·first | (simp at hc; done) |
      (
      (try simp at hc); (try have hcx0 := inR_t.1 hc); (try have hcx1 := isV_t.1 hc); rw [decide_eq_true hc, Bool.true_and] at hM; refine Runs.skip ?_; refine Runs.regO (.inl rfl) nzc (fun R hR => ?_); simp (disch := omega) [if_t, hn, s0, s5, s6, s7]; refine hR _ _ _ (by simp) ?_; clear hR R; dsimp only [thenQ, blockQ]; refine ⟨k1 - 1, by omega, i + 1, ?_, ?_, ?_, ?_, ?_, ?_, ?_, ?_⟩
      ·omega
      ·simp (disch := omega) [hE1] <;> omega
      ·simp (disch := omega) [if_t, hn, s0, s5, s6, s7]
      ·simp (disch := omega) [if_t, hn, s0, s5, s6, s7]
      ·simp (disch := omega) [if_t, hn, s0, s5, s6, s7]
      ·simp (disch := omega) [if_t, hn, s0, s5, s6, s7]
      ·first | omega | assumption
      ·rw [hM]))
  ·first | (simp at hc; done) |
    (
    (try simp at hc); (try have hcx0 := inR_t.1 hc); (try have hcx1 := isV_t.1 hc); rw [List.drop_of_length_le (by omega)] at hM; refine Runs.exit ?_; refine Runs.cseq ?_; refine Runs.regO (.inl rfl) nzc (fun R hR => ?_); simp (disch := omega) [if_t, hn, s0, s5, s6, s7]; refine hR _ _ _ (by simp) ?_; clear hR R; refine Runs.ret ?_; dsimp only [thenQ, blockQ]; refine ⟨by simp, by simp (disch := omega) [hE1] <;> omega, ?_⟩
    simp (disch := omega) [if_t, hn, s0, s5, s6, s7, resD, resL, resV] <;> (first | omega | (simp_all [allSet]; done) | (simp_all [allSet] <;> omega)))
 ·skip
  refine ⟨0, ?_, ?_, ?_, ?_, ?_, ?_, ?_, ?_⟩
  ·omega
  ·simp
  ·simp (disch := omega) [if_t, hn]
  ·simp (disch := omega) [if_t, hn]
  ·simp (disch := omega) [if_t, hn]
  ·simp (disch := omega) [if_t, hn]
  ·first | omega | simp | rfl
  ·rfl

set_option maxHeartbeats 1000000 in
/-- impl.ValidEdges -/
@[simp] theorem c_impl_ValidEdges (es : List Ent) (n : Nat) (hn : n ≠ 0) (p0 : sizL es ≤ 1152921504606846976) : cfg.call 46 [cl es] n = some (bi (validE es), n, []) := by
 refine call_runs0 rfl Try.func46 rfl (by kernel_rfl) rfl (by simp (disch := omega) [low_agg, low_pt, low_fn]) ?_; have hl_es := len_siz es
 refine Runs.cseq ?_; refine Runs.regO (.inl rfl) nzc (fun R hR => ?_); simp (disch := omega) [if_t, hn]; refine hR _ _ _ (by simp) ?_; clear hR R; refine Runs.cseq ?_; refine Runs.cseq ?_; refine Runs.regO (.inl rfl) nzc (fun R hR => ?_); simp (disch := omega) [if_t, hn]; refine hR _ _ _ (by simp) ?_; clear hR R; refine Runs.cblock ?_; refine Runs.loop (fun k fr n' E => ∃ (i : Nat), n ≤ n' ∧ Go.Cv.Loc n E ∧ fr 0 = cl es ∧ fr 5 = cl es ∧ fr 6 = ci (es.length : Int) ∧ fr 7 = ci (i : Int) ∧ i + k = es.length ∧ allEdge es = allEdge (es.drop i)) ?_ (k := es.length) ?_
 ·rintro k1 fr n1 E1 ⟨i, hn1, hE1, s0, s5, s6, s7, hk, hM⟩
  have hz1 : n1 ≠ 0 := by omega
  refine Runs.cseq ?_; refine Runs.regO (.inl rfl) nzc (fun R hR => ?_); simp (disch := omega) [if_t, hn, s0, s5, s6, s7]; refine hR _ _ _ (by simp) ?_; clear hR R; refine Runs.cseq ?_; refine Runs.condI fun d hd => ?_; simp (disch := omega) [if_t, hn, s0, s5, s6, s7] at hd; subst hd; refine cond_b (fun hc => ?_) (fun hc => ?_)
  ·first | (simp at hc; done) |
    (
    (try simp at hc); (try have hcx0 := inR_t.1 hc); (try have hcx1 := isV_t.1 hc); have hsz := siz_ix hc
    (try simp at hsz); rw [drop_ix hc] at hM; rw [allEdge] at hM; refine Runs.skip ?_; refine Runs.cseq ?_; refine Runs.cblock ?_; refine Runs.cseq ?_; refine Runs.regO (.inl rfl) nzc (fun R hR => ?_); simp (disch := omega) [if_t, hn, s0, s5, s6, s7]; refine hR _ _ _ (by simp) ?_; clear hR R; refine Runs.cseq ?_; refine Runs.regO (.inl rfl) nzc (fun R hR => ?_); repeat' (first | (simp (disch := omega) [if_t, hn, s0, s5, s6, s7]) | (with_reducible refine RunsW.splitN (fun hb => ?_) (fun hb => ?_) <;> (try simp only [hb]) <;> (try simp at hb) <;> (try have hx0 := inR_t.1 hb) <;> (try have hx1 := isV_t.1 hb)) | (with_reducible refine RunsW.split (fun hb => ?_) (fun hb => ?_) <;> (try simp only [hb]) <;> (try simp at hb) <;> (try have hx0 := inR_t.1 hb) <;> (try have hx1 := isV_t.1 hb)))
    all_goals (
     refine hR _ _ _ (by simp) ?_; clear hR R; refine Runs.condI fun d hd => ?_; simp (disch := omega) [if_t, hn, s0, s5, s6, s7] at hd; subst hd; refine cond_b (fun hc => ?_) (fun hc => ?_)
     ·first | (simp at hc; done) |
       (
       (try simp at hc); (try have hcx0 := inR_t.1 hc); (try have hcx1 := isV_t.1 hc); have ho : okEdge (ix es i) = false := by clear hM; simp_all [okEdge, isV] <;> omega
       have hM : allEdge es = false := by rw [hM, ho]; rfl
       refine Runs.cseq ?_; refine Runs.regO (.inl rfl) nzc (fun R hR => ?_); simp (disch := omega) [if_t, hn, s0, s5, s6, s7]; refine hR _ _ _ (by simp) ?_; clear hR R; refine Runs.ret ?_; dsimp only [thenQ, blockQ]; refine ⟨by simp, by simp (disch := omega) [hE1] <;> omega, ?_⟩
       simp (disch := omega) [if_t, hn, s0, s5, s6, s7, resD, resL, resV] <;> (first | omega | (simp [validE, hM, allEdge]; cases allSet es <;> cases validZ es <;> simp) | (simp_all [validE, allEdge]; done) | (simp_all [validE, allEdge] <;> omega)))
     ·first | (simp at hc; done) |
       (
       (try simp at hc); (try have hcx0 := inR_t.1 hc); (try have hcx1 := isV_t.1 hc); have ho : okEdge (ix es i) = true := by clear hM; simp_all [okEdge, isV] <;> omega
       rw [ho, Bool.true_and] at hM; refine Runs.skip ?_; refine Runs.regO (.inl rfl) nzc (fun R hR => ?_); simp (disch := omega) [if_t, hn, s0, s5, s6, s7]; refine hR _ _ _ (by simp) ?_; clear hR R; dsimp only [thenQ, blockQ]; refine ⟨k1 - 1, by omega, i + 1, ?_, ?_, ?_, ?_, ?_, ?_, ?_, ?_⟩
       ·omega
       ·simp (disch := omega) [hE1] <;> omega
       ·simp (disch := omega) [if_t, hn, s0, s5, s6, s7]
       ·simp (disch := omega) [if_t, hn, s0, s5, s6, s7]
       ·simp (disch := omega) [if_t, hn, s0, s5, s6, s7]
       ·simp (disch := omega) [if_t, hn, s0, s5, s6, s7]
       ·first | omega | assumption
       ·rw [hM])))
  ·first | (simp at hc; done) |
    (
    (try simp at hc); (try have hcx0 := inR_t.1 hc); (try have hcx1 := isV_t.1 hc); rw [List.drop_of_length_le (by omega)] at hM; refine Runs.exit ?_; refine Runs.cseq ?_; refine Runs.regO (.inl rfl) nzc (fun R hR => ?_); simp (disch := omega) [if_t, hn, s0, s5, s6, s7]; refine hR _ _ _ (by simp) ?_; clear hR R; refine Runs.ret ?_; dsimp only [thenQ, blockQ]; refine ⟨by simp, by simp (disch := omega) [hE1] <;> omega, ?_⟩
    simp (disch := omega) [if_t, hn, s0, s5, s6, s7, resD, resL, resV] <;> (first | omega | (simp [validE, hM, allEdge]; cases allSet es <;> cases validZ es <;> simp) | (simp_all [validE, allEdge]; done) | (simp_all [validE, allEdge] <;> omega)))
 ·skip
  refine ⟨0, ?_, ?_, ?_, ?_, ?_, ?_, ?_, ?_⟩
  ·omega
  ·simp
  ·simp (disch := omega) [if_t, hn]
  ·simp (disch := omega) [if_t, hn]
  ·simp (disch := omega) [if_t, hn]
  ·simp (disch := omega) [if_t, hn]
  ·first | omega | simp | rfl
  ·rfl

def adjF : List Ent → (Nat → Nat → Bool) → Nat → Nat → Bool
  | [], g => g
  | e :: es, g => adjF es (upd2 g (ix e.row 0).toNat (ix e.row 1).toNat true)
def adjG (es : List Ent) : Nat → Nat → Bool := adjF es (fun _ _ => false)
theorem okEdge_iff {e : Ent} : okEdge e = true ↔ e.row.length = 2 ∧ (0 ≤ ix e.row 0 ∧ ix e.row 0 ≤ 19) ∧ (0 ≤ ix e.row 1 ∧ ix e.row 1 ≤ 19) := by simp [okEdge, isV, inR]
theorem allEdge_ix : ∀ {es : List Ent} {i : Nat}, allEdge es = true → i < es.length → okEdge (ix es i) = true
  | e :: es, 0, h, _ => by simp only [allEdge, Bool.and_eq_true] at h; exact h.1
  | e :: es, i + 1, h, hi => by simp only [allEdge, Bool.and_eq_true] at h; rw [ix_succ]; exact allEdge_ix h.2 (by simpa using hi)

set_option maxHeartbeats 1000000 in
/-- spec.CheckPath -/
@[simp] theorem c_spec_CheckPath (es : List Ent) (x y : Int) (p : List Int) (n : Nat) (hn : n ≠ 0) (p0 : sizL es ≤ 1152921504606846976) (p1 : sizL p ≤ 1152921504606846976) : cfg.call 15 [cl es, ci x, ci y, cl p] n = some (bi (pathOk es x y p), n, []) := by
 refine call_runs0 rfl Try.func15 rfl (by kernel_rfl) rfl (by simp (disch := omega) [low_agg, low_pt, low_fn]) ?_; have hl_es := len_siz es
 have hl_p := len_siz p
 refine Runs.cseq ?_; refine Runs.regO (.inl rfl) nzc (fun R hR => ?_); simp (disch := omega) [if_t, hn]; refine hR _ _ _ (by simp) ?_; clear hR R; refine Runs.cseq ?_; refine Runs.cseq ?_; refine Runs.regO (.inl rfl) nzc (fun R hR => ?_); repeat' (first | (simp (disch := omega) [if_t, hn]) | (with_reducible refine RunsW.splitN (fun hb => ?_) (fun hb => ?_) <;> (try simp only [hb]) <;> (try simp at hb) <;> (try have hx0 := inR_t.1 hb) <;> (try have hx1 := isV_t.1 hb)) | (with_reducible refine RunsW.split (fun hb => ?_) (fun hb => ?_) <;> (try simp only [hb]) <;> (try simp at hb) <;> (try have hx0 := inR_t.1 hb) <;> (try have hx1 := isV_t.1 hb)))
 all_goals (
  refine hR _ _ _ (by simp) ?_; clear hR R; refine Runs.condI fun d hd => ?_; simp (disch := omega) [if_t, hn] at hd; subst hd; refine cond_b (fun hc => ?_) (fun hc => ?_)
  ·first | (simp at hc; done) |
    (
    (try simp at hc); (try have hcx0 := inR_t.1 hc); (try have hcx1 := isV_t.1 hc); have ho : preP es p x y = false := by simp_all [preP] <;> omega
    refine Runs.cseq ?_; refine Runs.regO (.inl rfl) nzc (fun R hR => ?_); simp (disch := omega) [if_t, hn]; refine hR _ _ _ (by simp) ?_; clear hR R; refine Runs.ret ?_; dsimp only [thenQ, blockQ]; refine ⟨by simp, by simp (disch := omega) <;> omega, ?_⟩
    simp (disch := omega) [if_t, hn, resD, resL, resV] <;> (first | omega | (simp_all [pathOk]; done) | (simp_all [pathOk] <;> omega)))
  ·first | (simp at hc; done) |
    (
    (try simp at hc); (try have hcx0 := inR_t.1 hc); (try have hcx1 := isV_t.1 hc); have ho : preP es p x y = true := by simp_all [preP] <;> omega
    refine Runs.skip ?_; refine Runs.cseq ?_; refine Runs.cseq ?_; refine Runs.regO (.inl rfl) nzc (fun R hR => ?_); simp (disch := omega) [if_t, hn]; refine hR _ _ _ (by simp) ?_; clear hR R; refine Runs.cblock ?_; refine Runs.loop (fun k fr n' E => ∃ (i : Nat), n ≤ n' ∧ Go.Cv.Loc n E ∧ fr 0 = cl es ∧ fr 3 = cl p ∧ fr 9 = ci ((i : Int) + 1) ∧ i + 1 + k = p.length ∧ edgesOk es p = edgesOk es (p.drop i)) ?_ (k := p.length - 1) ?_
    ·rintro k1 fr n1 E1 ⟨i, hn1, hE1, s0, s3, s9, hk, hM⟩
     have hz1 : n1 ≠ 0 := by omega
     refine Runs.cseq ?_; refine Runs.cseq ?_; refine Runs.regO (.inl rfl) nzc (fun R hR => ?_); simp (disch := omega) [if_t, hn, s0, s3, s9]; refine hR _ _ _ (by simp) ?_; clear hR R; refine Runs.condI fun d hd => ?_; simp (disch := omega) [if_t, hn, s0, s3, s9] at hd; subst hd; refine cond_b (fun hc => ?_) (fun hc => ?_)
     ·first | (simp at hc; done) |
       (
       (try simp at hc); (try have hcx0 := inR_t.1 hc); (try have hcx1 := isV_t.1 hc); rw [drop_ix (xs := p) (i := i) (by omega), drop_ix (xs := p) (i := i + 1) (by omega), edgesOk, ← drop_ix (xs := p) (i := i + 1) (by omega)] at hM; have ht : ((i : Int) + 1 + 1).toNat = i + 2 := by omega
       refine Runs.skip ?_; refine Runs.cseq ?_; refine Runs.cblock ?_; refine Runs.cseq ?_; refine Runs.regO (.inl rfl) nzc (fun R hR => ?_); simp (disch := omega) [if_t, hn, s0, s3, s9]; refine hR _ _ _ (by simp) ?_; clear hR R; refine Runs.condI fun d hd => ?_; simp (disch := omega) [if_t, hn, s0, s3, s9] at hd; subst hd; refine cond_b (fun hc => ?_) (fun hc => ?_)
       ·first | (simp at hc; done) |
         (
         (try simp at hc); (try have hcx0 := inR_t.1 hc); (try have hcx1 := isV_t.1 hc); rw [ht, two_slice (by omega)] at hc; rw [hc] at hM; refine Runs.cseq ?_; refine Runs.regO (.inl rfl) nzc (fun R hR => ?_); simp (disch := omega) [if_t, hn, s0, s3, s9]; refine hR _ _ _ (by simp) ?_; clear hR R; refine Runs.ret ?_; dsimp only [thenQ, blockQ]; refine ⟨by simp, by simp (disch := omega) [hE1] <;> omega, ?_⟩
         simp (disch := omega) [if_t, hn, s0, s3, s9, resD, resL, resV] <;> (first | omega | (simp_all [pathOk]; done) | (simp_all [pathOk] <;> omega)))
       ·first | (simp at hc; done) |
         (
         (try simp at hc); (try have hcx0 := inR_t.1 hc); (try have hcx1 := isV_t.1 hc); rw [ht, two_slice (by omega)] at hc; rw [decide_eq_false hc, Bool.not_false, Bool.true_and] at hM; refine Runs.skip ?_; refine Runs.regO (.inl rfl) nzc (fun R hR => ?_); simp (disch := omega) [if_t, hn, s0, s3, s9]; refine hR _ _ _ (by simp) ?_; clear hR R; dsimp only [thenQ, blockQ]; refine ⟨k1 - 1, by omega, i + 1, ?_, ?_, ?_, ?_, ?_, ?_, ?_⟩
         ·omega
         ·simp (disch := omega) [hE1] <;> omega
         ·simp (disch := omega) [if_t, hn, s0, s3, s9]
         ·simp (disch := omega) [if_t, hn, s0, s3, s9]
         ·simp (disch := omega) [if_t, hn, s0, s3, s9]
         ·first | omega | assumption
         ·rw [hM]))
     ·first | (simp at hc; done) |
       (
       (try simp at hc); (try have hcx0 := inR_t.1 hc); (try have hcx1 := isV_t.1 hc); have hM : edgesOk es p = true := by
        rw [hM, drop_ix (xs := p) (i := i) (by omega), List.drop_of_length_le (by omega)]; rfl
       refine Runs.exit ?_; refine Runs.cseq ?_; refine Runs.regO (.inl rfl) nzc (fun R hR => ?_); simp (disch := omega) [if_t, hn, s0, s3, s9]; refine hR _ _ _ (by simp) ?_; clear hR R; refine Runs.ret ?_; dsimp only [thenQ, blockQ]; refine ⟨by simp, by simp (disch := omega) [hE1] <;> omega, ?_⟩
       simp (disch := omega) [if_t, hn, s0, s3, s9, resD, resL, resV] <;> (first | omega | (simp_all [pathOk]; done) | (simp_all [pathOk] <;> omega)))
    ·skip
     refine ⟨0, ?_, ?_, ?_, ?_, ?_, ?_, ?_⟩
     ·omega
     ·simp
     ·simp (disch := omega) [if_t, hn]
     ·simp (disch := omega) [if_t, hn]
     ·simp (disch := omega) [if_t, hn]
     ·first | omega | simp | rfl
     ·rfl))

def impOk (g : Nat → Nat → Bool) : List Int → Bool
  | a :: b :: rest => (isV a && isV b && g a.toNat b.toNat) && impOk g (b :: rest)
  | _ => true

set_option maxHeartbeats 1000000 in
/-- impl.adjacency -/
@[simp] theorem c_impl_adjacency (es : List Ent) (n : Nat) (hn : n ≠ 0) (p0 : sizL es ≤ 1152921504606846976) (p1 : allEdge es = true) : cfg.call 47 [cl es] n = some (.agg (mat (adjG es)), n, []) := by
 refine call_runs0 rfl Try.func47 rfl (by kernel_rfl) rfl (by simp (disch := omega) [low_agg, low_pt, low_fn]) ?_; have hl_es := len_siz es
 refine Runs.cseq ?_; refine Runs.regO (.inl rfl) nzc (fun R hR => ?_); simp (disch := omega) [if_t, hn]; refine hR _ _ _ (by simp) ?_; clear hR R; refine Runs.cseq ?_; refine Runs.regO (.inl rfl) nzc (fun R hR => ?_); simp (disch := omega) [if_t, hn]; refine hR _ _ _ (by simp) ?_; clear hR R; refine Runs.cseq ?_; refine Runs.cseq ?_; refine Runs.regO (.inl rfl) nzc (fun R hR => ?_); simp (disch := omega) [if_t, hn]; refine hR _ _ _ (by simp) ?_; clear hR R; refine Runs.cblock ?_; refine Runs.loop (fun k fr n' E => ∃ (i : Nat) (g : Nat → Nat → Bool), n + 2 ≤ n' ∧ Go.Cv.Loc n E ∧ fr 2 = .pt n 0 (mat (fun _ _ => false)) ∧ fr 3 = .pt (n + 1) 0 (mat g) ∧ fr 7 = cl es ∧ fr 8 = ci (es.length : Int) ∧ fr 9 = ci (i : Int) ∧ i + k = es.length ∧ adjG es = adjF (es.drop i) g) ?_ (k := es.length) ?_
 ·rintro k1 fr n1 E1 ⟨i, g, hn1, hE1, s2, s3, s7, s8, s9, hk, hM⟩
  have hz1 : n1 ≠ 0 := by omega
  refine Runs.cseq ?_; refine Runs.regO (.inl rfl) nzc (fun R hR => ?_); simp (disch := omega) [if_t, hn, s2, s3, s7, s8, s9]; refine hR _ _ _ (by simp) ?_; clear hR R; refine Runs.cseq ?_; refine Runs.condI fun d hd => ?_; simp (disch := omega) [if_t, hn, s2, s3, s7, s8, s9] at hd; subst hd; refine cond_b (fun hc => ?_) (fun hc => ?_)
  ·first | (simp at hc; done) |
    (
    (try simp at hc); (try have hcx0 := inR_t.1 hc); (try have hcx1 := isV_t.1 hc); have hsz := siz_ix hc
    (try simp at hsz); rw [drop_ix hc] at hM; rw [adjF] at hM; have ho := okEdge_iff.1 (allEdge_ix p1 hc)
    obtain ⟨ho1, ho2, ho3⟩ := ho
    refine Runs.skip ?_; refine Runs.cseq ?_; refine Runs.cblock ?_; refine Runs.cseq ?_; refine Runs.regO (.inl rfl) nzc (fun R hR => ?_); simp (disch := omega) [if_t, hn, s2, s3, s7, s8, s9]; refine hR _ _ _ (by simp) ?_; clear hR R; refine Runs.regO (.inr (by kernel_rfl)) nzc (fun R hR => ?_); simp (disch := omega) [if_t, hn, s2, s3, s7, s8, s9]; refine hR _ _ _ (by simp) ?_; clear hR R; refine Runs.regO (.inl rfl) nzc (fun R hR => ?_); simp (disch := omega) [if_t, hn, s2, s3, s7, s8, s9]; refine hR _ _ _ (by simp) ?_; clear hR R; dsimp only [thenQ, blockQ]; refine ⟨k1 - 1, by omega, i + 1, upd2 g (ix (ix es i).row 0).toNat (ix (ix es i).row 1).toNat true, ?_, ?_, ?_, ?_, ?_, ?_, ?_, ?_, ?_⟩
    ·omega
    ·simp (disch := omega) [hE1] <;> omega
    ·simp (disch := omega) [if_t, hn, s2, s3, s7, s8, s9]
    ·simp (disch := omega) [if_t, hn, s2, s3, s7, s8, s9]
    ·simp (disch := omega) [if_t, hn, s2, s3, s7, s8, s9]
    ·simp (disch := omega) [if_t, hn, s2, s3, s7, s8, s9]
    ·simp (disch := omega) [if_t, hn, s2, s3, s7, s8, s9]
    ·first | omega | assumption
    ·rw [hM])
  ·first | (simp at hc; done) |
    (
    (try simp at hc); (try have hcx0 := inR_t.1 hc); (try have hcx1 := isV_t.1 hc); rw [List.drop_of_length_le (by omega)] at hM; refine Runs.exit ?_; refine Runs.cseq ?_; refine Runs.regO (.inl rfl) nzc (fun R hR => ?_); simp (disch := omega) [if_t, hn, s2, s3, s7, s8, s9]; refine hR _ _ _ (by simp) ?_; clear hR R; refine Runs.ret ?_; dsimp only [thenQ, blockQ]; refine ⟨by simp, by simp (disch := omega) [hE1] <;> omega, ?_⟩
    simp (disch := omega) [if_t, hn, s2, s3, s7, s8, s9, resD, resL, resV] <;> (first | omega | (simp_all [adjF]; done) | (simp_all [adjF] <;> omega)))
 ·skip
  refine ⟨0, fun _ _ => false, ?_, ?_, ?_, ?_, ?_, ?_, ?_, ?_, ?_⟩
  ·omega
  ·simp
  ·simp (disch := omega) [if_t, hn]
  ·simp (disch := omega) [if_t, hn]
  ·simp (disch := omega) [if_t, hn]
  ·simp (disch := omega) [if_t, hn]
  ·simp (disch := omega) [if_t, hn]
  ·first | omega | simp | rfl
  ·rfl

def preI (es : List Ent) (p : List Int) (x y : Int) : Bool := validE es && (inR p.length 2 60 && (decide (ix p 0 = x) && decide (ix p (p.length - 1) = y)))

set_option maxHeartbeats 1000000 in
/-- impl.CheckPath -/
@[simp] theorem c_impl_CheckPath (es : List Ent) (x y : Int) (p : List Int) (n : Nat) (hn : n ≠ 0) (p0 : sizL es ≤ 1152921504606846976) (p1 : sizL p ≤ 1152921504606846976) : cfg.call 18 [cl es, ci x, ci y, cl p] n = some (bi (preP es p x y && impOk (adjG es) p), n, []) := by
 refine call_runs0 rfl Try.func18 rfl (by kernel_rfl) rfl (by simp (disch := omega) [low_agg, low_pt, low_fn]) ?_; have hl_es := len_siz es
 have hl_p := len_siz p
 refine Runs.cseq ?_; refine Runs.regO (.inl rfl) nzc (fun R hR => ?_); simp (disch := omega) [if_t, hn]; refine hR _ _ _ (by simp) ?_; clear hR R; refine Runs.cseq ?_; refine Runs.cseq ?_; refine Runs.regO (.inl rfl) nzc (fun R hR => ?_); repeat' (first | (simp (disch := omega) [if_t, hn]) | (with_reducible refine RunsW.splitN (fun hb => ?_) (fun hb => ?_) <;> (try simp only [hb]) <;> (try simp at hb) <;> (try have hx0 := inR_t.1 hb) <;> (try have hx1 := isV_t.1 hb)) | (with_reducible refine RunsW.split (fun hb => ?_) (fun hb => ?_) <;> (try simp only [hb]) <;> (try simp at hb) <;> (try have hx0 := inR_t.1 hb) <;> (try have hx1 := isV_t.1 hb)))
 all_goals (
  refine hR _ _ _ (by simp) ?_; clear hR R; refine Runs.condI fun d hd => ?_; simp (disch := omega) [if_t, hn] at hd; subst hd; refine cond_b (fun hc => ?_) (fun hc => ?_)
  ·first | (simp at hc; done) |
    (
    (try simp at hc); (try have hcx0 := inR_t.1 hc); (try have hcx1 := isV_t.1 hc); have ho : preP es p x y = false := by simp_all [preP, inR] <;> omega
    refine Runs.cseq ?_; refine Runs.regO (.inl rfl) nzc (fun R hR => ?_); simp (disch := omega) [if_t, hn]; refine hR _ _ _ (by simp) ?_; clear hR R; refine Runs.ret ?_; dsimp only [thenQ, blockQ]; refine ⟨by simp, by simp (disch := omega) <;> omega, ?_⟩
    simp (disch := omega) [if_t, hn, resD, resL, resV] <;> (first | omega | (simp_all; done) | (simp_all <;> omega)))
  ·first | (simp at hc; done) |
    (
    (try simp at hc); (try have hcx0 := inR_t.1 hc); (try have hcx1 := isV_t.1 hc); have ho : preP es p x y = true := by simp_all [preP, inR] <;> omega
    refine Runs.skip ?_; refine Runs.cseq ?_; refine Runs.regO (.inl rfl) nzc (fun R hR => ?_); simp (disch := omega) [if_t, hn, c_impl_adjacency es _ hn p0 (by simp_all [validE])]; refine hR _ _ _ (by simp) ?_; clear hR R; refine Runs.cseq ?_; refine Runs.cseq ?_; refine Runs.regO (.inl rfl) nzc (fun R hR => ?_); simp (disch := omega) [if_t, hn]; refine hR _ _ _ (by simp) ?_; clear hR R; refine Runs.cblock ?_; refine Runs.loop (fun k fr n' E => ∃ (i : Nat), n + 1 ≤ n' ∧ Go.Cv.Loc n E ∧ fr 3 = cl p ∧ fr 9 = .pt n 0 (mat (adjG es)) ∧ fr 10 = ci ((i : Int) + 1) ∧ i + 1 + k = p.length ∧ impOk (adjG es) p = impOk (adjG es) (p.drop i)) ?_ (k := p.length - 1) ?_
    ·rintro k1 fr n1 E1 ⟨i, hn1, hE1, s3, s9, s10, hk, hM⟩
     have hz1 : n1 ≠ 0 := by omega
     refine Runs.cseq ?_; refine Runs.cseq ?_; refine Runs.regO (.inl rfl) nzc (fun R hR => ?_); simp (disch := omega) [if_t, hn, s3, s9, s10]; refine hR _ _ _ (by simp) ?_; clear hR R; refine Runs.condI fun d hd => ?_; simp (disch := omega) [if_t, hn, s3, s9, s10] at hd; subst hd; refine cond_b (fun hc => ?_) (fun hc => ?_)
     ·first | (simp at hc; done) |
       (
       (try simp at hc); (try have hcx0 := inR_t.1 hc); (try have hcx1 := isV_t.1 hc); rw [drop_ix (xs := p) (i := i) (by omega), drop_ix (xs := p) (i := i + 1) (by omega), impOk, ← drop_ix (xs := p) (i := i + 1) (by omega)] at hM; refine Runs.skip ?_; refine Runs.cseq ?_; refine Runs.cblock ?_; refine Runs.cseq ?_; refine Runs.regO (.inr (by kernel_rfl)) nzc (fun R hR => ?_); repeat' (first | (simp (disch := omega) [if_t, hn, s3, s9, s10]) | (with_reducible refine RunsW.splitN (fun hb => ?_) (fun hb => ?_) <;> (try simp only [hb]) <;> (try simp at hb) <;> (try have hx0 := inR_t.1 hb) <;> (try have hx1 := isV_t.1 hb)) | (with_reducible refine RunsW.split (fun hb => ?_) (fun hb => ?_) <;> (try simp only [hb]) <;> (try simp at hb) <;> (try have hx0 := inR_t.1 hb) <;> (try have hx1 := isV_t.1 hb)))
       all_goals (
        refine hR _ _ _ (by simp) ?_; clear hR R; refine Runs.condI fun d hd => ?_; simp (disch := omega) [if_t, hn, s3, s9, s10] at hd; subst hd; refine cond_b (fun hc => ?_) (fun hc => ?_)
        ·first | (simp at hc; done) |
          (
          (try simp at hc); (try have hcx0 := inR_t.1 hc); (try have hcx1 := isV_t.1 hc); refine Runs.cseq ?_; refine Runs.regO (.inl rfl) nzc (fun R hR => ?_); simp (disch := omega) [if_t, hn, s3, s9, s10]; refine hR _ _ _ (by simp) ?_; clear hR R; refine Runs.ret ?_; dsimp only [thenQ, blockQ]; refine ⟨by simp, by simp (disch := omega) [hE1] <;> omega, ?_⟩
          simp (disch := omega) [if_t, hn, s3, s9, s10, resD, resL, resV] <;> (first | omega | (simp_all; done) | (simp_all <;> omega)))
        ·first | (simp at hc; done) |
          (
          (try simp at hc); (try have hcx0 := inR_t.1 hc); (try have hcx1 := isV_t.1 hc); refine Runs.skip ?_; refine Runs.regO (.inl rfl) nzc (fun R hR => ?_); simp (disch := omega) [if_t, hn, s3, s9, s10]; refine hR _ _ _ (by simp) ?_; clear hR R; dsimp only [thenQ, blockQ]; refine ⟨k1 - 1, by omega, i + 1, ?_, ?_, ?_, ?_, ?_, ?_, ?_⟩
          ·omega
          ·simp (disch := omega) [hE1] <;> omega
          ·simp (disch := omega) [if_t, hn, s3, s9, s10]
          ·simp (disch := omega) [if_t, hn, s3, s9, s10]
          ·simp (disch := omega) [if_t, hn, s3, s9, s10]
          ·first | omega | assumption
          ·rw [hM]; try simp_all)))
     ·first | (simp at hc; done) |
       (
       (try simp at hc); (try have hcx0 := inR_t.1 hc); (try have hcx1 := isV_t.1 hc); have hM : impOk (adjG es) p = true := by
        rw [hM, drop_ix (xs := p) (i := i) (by omega), List.drop_of_length_le (by omega)]; rfl
       refine Runs.exit ?_; refine Runs.cseq ?_; refine Runs.regO (.inl rfl) nzc (fun R hR => ?_); simp (disch := omega) [if_t, hn, s3, s9, s10]; refine hR _ _ _ (by simp) ?_; clear hR R; refine Runs.ret ?_; dsimp only [thenQ, blockQ]; refine ⟨by simp, by simp (disch := omega) [hE1] <;> omega, ?_⟩
       simp (disch := omega) [if_t, hn, s3, s9, s10, resD, resL, resV] <;> (first | omega | (simp_all; done) | (simp_all <;> omega)))
    ·skip
     refine ⟨0, ?_, ?_, ?_, ?_, ?_, ?_, ?_⟩
     ·omega
     ·simp
     ·simp (disch := omega) [if_t, hn]
     ·simp (disch := omega) [if_t, hn]
     ·simp (disch := omega) [if_t, hn]
     ·first | omega | simp | rfl
     ·rfl))

def szI (m : Nat) (left : Int) : Int := if left - m < 0 then -1 else left - m
theorem szI_le {m : Nat} {l : Int} (h : l ≤ 1048576) : szI m l ≤ 1048576 := by unfold szI; split <;> omega
theorem szI_ge (m : Nat) (l : Int) : -1 ≤ szI m l := by unfold szI; split <;> omega
theorem szI_neg {m : Nat} {l : Int} (h : szI m l < 0) : szI m l = -1 := by unfold szI at *; split at h <;> simp_all <;> omega
def szRows : List Ent → Int → Int
  | [], l => l
  | e :: es, l => if szI e.row.length l < 0 then -1 else szRows es (szI e.row.length l)
def szEs (es : List Ent) (left : Int) : Int := if left - (es.length : Int) < 0 then -1 else szRows es (left - (es.length : Int))
theorem szRows_siz : ∀ (es : List Ent) (l : Int), 0 ≤ szRows es l → 0 ≤ l → (sizL es : Int) ≤ l + es.length - szRows es l
  | [], l, h, h0 => by simp [szRows, sizL]
  | e :: es, l, h, h0 => by
    rw [szRows] at h ⊢
    by_cases hc : szI e.row.length l < 0
    · rw [if_pos hc] at h; omega
    · rw [if_neg hc] at h ⊢
      have ih := szRows_siz es _ h (by omega)
      have e1 : szI e.row.length l = l - e.row.length := by unfold szI at hc ⊢; split at hc <;> simp_all <;> omega
      have e2 : ∀ xs : List Int, sizL xs = xs.length := by
        intro xs; induction xs with
        | nil => rfl
        | cons x xs ih => simp [ih]; omega
      simp only [sizL_cons, siz_ent, e2, List.length_cons]
      rw [e1] at ih ⊢
      omega
theorem szEs_siz {es : List Ent} {l : Int} (h : 0 ≤ szEs es l) : (sizL es : Int) ≤ l - szEs es l := by
  unfold szEs at h ⊢
  by_cases hc : l - (es.length : Int) < 0
  · rw [if_pos hc] at h; omega
  · rw [if_neg hc] at h ⊢
    have := szRows_siz es _ h (by omega)
    omega

set_option maxHeartbeats 1000000 in
/-- laws.szIntS -/
@[simp] theorem c_laws_szIntS (xs : List Int) (left : Int) (n : Nat) (hn : n ≠ 0) (p0 : xs.length ≤ 140737488355328) (p1 : left ≤ 1048576) (p2 : -1 ≤ left) : cfg.call 69 [cl xs, ci left] n = some (ci (szI xs.length left), n, []) := by
 refine call_runs0 rfl Try.func69 rfl (by kernel_rfl) rfl (by simp (disch := omega) [low_agg, low_pt, low_fn]) ?_; refine Runs.cseq ?_; refine Runs.regO (.inl rfl) nzc (fun R hR => ?_); simp (disch := omega) [if_t, hn]; refine hR _ _ _ (by simp) ?_; clear hR R; refine Runs.cseq ?_; refine Runs.regO (.inl rfl) nzc (fun R hR => ?_); simp (disch := omega) [if_t, hn]; refine hR _ _ _ (by simp) ?_; clear hR R; refine Runs.cseq ?_; refine Runs.cseq ?_; refine Runs.regO (.inl rfl) nzc (fun R hR => ?_); simp (disch := omega) [if_t, hn]; refine hR _ _ _ (by simp) ?_; clear hR R; refine Runs.condI fun d hd => ?_; simp (disch := omega) [if_t, hn] at hd; subst hd; refine cond_b (fun hc => ?_) (fun hc => ?_)
 ·first | (simp at hc; done) |
   (
   (try simp at hc); (try have hcx0 := inR_t.1 hc); (try have hcx1 := isV_t.1 hc); refine Runs.cseq ?_; refine Runs.regO (.inl rfl) nzc (fun R hR => ?_); simp (disch := omega) [if_t, hn]; refine hR _ _ _ (by simp) ?_; clear hR R; refine Runs.ret ?_; dsimp only [thenQ, blockQ]; refine ⟨by simp, by simp (disch := omega) <;> omega, ?_⟩
   simp (disch := omega) [if_t, hn, resD, resL, resV] <;> (first | omega | (simp_all [szI]; done) | (simp_all [szI] <;> omega)))
 ·first | (simp at hc; done) |
   (
   (try simp at hc); (try have hcx0 := inR_t.1 hc); (try have hcx1 := isV_t.1 hc); refine Runs.skip ?_; refine Runs.cseq ?_; refine Runs.regO (.inl rfl) nzc (fun R hR => ?_); simp (disch := omega) [if_t, hn]; refine hR _ _ _ (by simp) ?_; clear hR R; refine Runs.ret ?_; dsimp only [thenQ, blockQ]; refine ⟨by simp, by simp (disch := omega) <;> omega, ?_⟩
   simp (disch := omega) [if_t, hn, resD, resL, resV] <;> (first | omega | (simp_all [szI]; done) | (simp_all [szI] <;> omega)))

set_option maxHeartbeats 1000000 in
/-- laws.szEntry -/
@[simp] theorem c_laws_szEntry (e : Ent) (left : Int) (n : Nat) (hn : n ≠ 0) (p0 : e.row.length ≤ 140737488355328) (p1 : left ≤ 1048576) (p2 : -1 ≤ left) : cfg.call 41 [.agg [cl e.row, ci e.w], ci left] n = some (ci (szI e.row.length left), n, []) := by
 refine call_runs0 rfl Try.func41 rfl (by kernel_rfl) rfl (by simp (disch := omega) [low_agg, low_pt, low_fn]) ?_; refine Runs.cseq ?_; refine Runs.regO (.inl rfl) nzc (fun R hR => ?_); simp (disch := omega) [if_t, hn]; refine hR _ _ _ (by simp) ?_; clear hR R; refine Runs.cseq ?_; refine Runs.regO (.inl rfl) nzc (fun R hR => ?_); simp (disch := omega) [if_t, hn]; refine hR _ _ _ (by simp) ?_; clear hR R; refine Runs.cseq ?_; refine Runs.cseq ?_; refine Runs.regO (.inl rfl) nzc (fun R hR => ?_); simp (disch := omega) [if_t, hn]; refine hR _ _ _ (by simp) ?_; clear hR R; refine Runs.condI fun d hd => ?_; simp (disch := omega) [if_t, hn] at hd; subst hd; refine cond_b (fun hc => ?_) (fun hc => ?_)
 ·first | (simp at hc; done) |
   (
   (try simp at hc); (try have hcx0 := inR_t.1 hc); (try have hcx1 := isV_t.1 hc); have hv := szI_neg hc
   refine Runs.cseq ?_; refine Runs.regO (.inl rfl) nzc (fun R hR => ?_); simp (disch := omega) [if_t, hn]; refine hR _ _ _ (by simp) ?_; clear hR R; refine Runs.ret ?_; dsimp only [thenQ, blockQ]; refine ⟨by simp, by simp (disch := omega) <;> omega, ?_⟩
   simp (disch := omega) [if_t, hn, resD, resL, resV] <;> (first | omega | (simp_all; done) | (simp_all <;> omega)))
 ·first | (simp at hc; done) |
   (
   (try simp at hc); (try have hcx0 := inR_t.1 hc); (try have hcx1 := isV_t.1 hc); refine Runs.skip ?_; refine Runs.cseq ?_; refine Runs.regO (.inl rfl) nzc (fun R hR => ?_); simp (disch := omega) [if_t, hn]; refine hR _ _ _ (by simp) ?_; clear hR R; refine Runs.ret ?_; dsimp only [thenQ, blockQ]; refine ⟨by simp, by simp (disch := omega) <;> omega, ?_⟩
   simp (disch := omega) [if_t, hn, resD, resL, resV] <;> (first | omega | (simp_all; done) | (simp_all <;> omega)))

set_option maxHeartbeats 1000000 in
/-- laws.szEntryS -/
@[simp] theorem c_laws_szEntryS (es : List Ent) (left : Int) (n : Nat) (hn : n ≠ 0) (p0 : es.length ≤ 140737488355328) (p1 : ∀ e ∈ es, e.row.length ≤ 140737488355328) (p2 : left ≤ 1048576) (p3 : 0 ≤ left) : cfg.call 14 [cl es, ci left] n = some (ci (szEs es left), n, []) := by
 refine call_runs0 rfl Try.func14 rfl (by kernel_rfl) rfl (by simp (disch := omega) [low_agg, low_pt, low_fn]) ?_; refine Runs.cseq ?_; refine Runs.regO (.inl rfl) nzc (fun R hR => ?_); simp (disch := omega) [if_t, hn]; refine hR _ _ _ (by simp) ?_; clear hR R; refine Runs.cseq ?_; refine Runs.regO (.inl rfl) nzc (fun R hR => ?_); simp (disch := omega) [if_t, hn]; refine hR _ _ _ (by simp) ?_; clear hR R; refine Runs.cseq ?_; refine Runs.cseq ?_; refine Runs.regO (.inl rfl) nzc (fun R hR => ?_); simp (disch := omega) [if_t, hn]; refine hR _ _ _ (by simp) ?_; clear hR R; refine Runs.condI fun d hd => ?_; simp (disch := omega) [if_t, hn] at hd; subst hd; refine cond_b (fun hc => ?_) (fun hc => ?_)
 ·first | (simp at hc; done) |
   (
   (try simp at hc); (try have hcx0 := inR_t.1 hc); (try have hcx1 := isV_t.1 hc); have hv : szEs es left = -1 := by rw [szEs, if_pos (by omega)]
   refine Runs.cseq ?_; refine Runs.regO (.inl rfl) nzc (fun R hR => ?_); simp (disch := omega) [if_t, hn]; refine hR _ _ _ (by simp) ?_; clear hR R; refine Runs.ret ?_; dsimp only [thenQ, blockQ]; refine ⟨by simp, by simp (disch := omega) <;> omega, ?_⟩
   simp (disch := omega) [if_t, hn, resD, resL, resV] <;> (first | omega | (simp_all [szRows]; done) | (simp_all [szRows] <;> omega)))
 ·first | (simp at hc; done) |
   (
   (try simp at hc); (try have hcx0 := inR_t.1 hc); (try have hcx1 := isV_t.1 hc); have hc0 : ¬ left - (es.length : Int) < 0 := by omega
   refine Runs.skip ?_; refine Runs.cseq ?_; refine Runs.cseq ?_; refine Runs.regO (.inl rfl) nzc (fun R hR => ?_); simp (disch := omega) [if_t, hn]; refine hR _ _ _ (by simp) ?_; clear hR R; refine Runs.cblock ?_; refine Runs.loop (fun k fr n' E => ∃ (i : Nat) (l : Int), n ≤ n' ∧ Go.Cv.Loc n E ∧ fr 0 = cl es ∧ fr 1 = ci l ∧ fr 5 = ci (i : Int) ∧ i + k = es.length ∧ 0 ≤ l ∧ l ≤ 1048576 ∧ szEs es left = szRows (es.drop i) l) ?_ (k := es.length) ?_
   ·rintro k1 fr n1 E1 ⟨i, l, hn1, hE1, s0, s1, s5, hk, ha, hb, hM⟩
    have hz1 : n1 ≠ 0 := by omega
    refine Runs.cseq ?_; refine Runs.cseq ?_; refine Runs.regO (.inl rfl) nzc (fun R hR => ?_); simp (disch := omega) [if_t, hn, s0, s1, s5]; refine hR _ _ _ (by simp) ?_; clear hR R; refine Runs.condI fun d hd => ?_; simp (disch := omega) [if_t, hn, s0, s1, s5] at hd; subst hd; refine cond_b (fun hc => ?_) (fun hc => ?_)
    ·first | (simp at hc; done) |
      (
      (try simp at hc); (try have hcx0 := inR_t.1 hc); (try have hcx1 := isV_t.1 hc); have hr := p1 _ (ix_mem hc)
      have hle := szI_le (m := (ix es i).row.length) hb
      rw [drop_ix hc, szRows] at hM; refine Runs.skip ?_; refine Runs.cseq ?_; refine Runs.cblock ?_; refine Runs.cseq ?_; refine Runs.regO (.inl rfl) nzc (fun R hR => ?_); simp (disch := omega) [if_t, hn, s0, s1, s5]; refine hR _ _ _ (by simp) ?_; clear hR R; refine Runs.cseq ?_; refine Runs.regO (.inl rfl) nzc (fun R hR => ?_); simp (disch := omega) [if_t, hn, s0, s1, s5]; refine hR _ _ _ (by simp) ?_; clear hR R; refine Runs.condI fun d hd => ?_; simp (disch := omega) [if_t, hn, s0, s1, s5] at hd; subst hd; refine cond_b (fun hc => ?_) (fun hc => ?_)
      ·first | (simp at hc; done) |
        (
        (try simp at hc); (try have hcx0 := inR_t.1 hc); (try have hcx1 := isV_t.1 hc); rw [if_pos hc] at hM; refine Runs.cseq ?_; refine Runs.regO (.inl rfl) nzc (fun R hR => ?_); simp (disch := omega) [if_t, hn, s0, s1, s5]; refine hR _ _ _ (by simp) ?_; clear hR R; refine Runs.ret ?_; dsimp only [thenQ, blockQ]; refine ⟨by simp, by simp (disch := omega) [hE1] <;> omega, ?_⟩
        simp (disch := omega) [if_t, hn, s0, s1, s5, resD, resL, resV] <;> (first | omega | (simp_all [szRows]; done) | (simp_all [szRows] <;> omega)))
      ·first | (simp at hc; done) |
        (
        (try simp at hc); (try have hcx0 := inR_t.1 hc); (try have hcx1 := isV_t.1 hc); rw [if_neg (by omega)] at hM; refine Runs.skip ?_; refine Runs.regO (.inl rfl) nzc (fun R hR => ?_); simp (disch := omega) [if_t, hn, s0, s1, s5]; refine hR _ _ _ (by simp) ?_; clear hR R; dsimp only [thenQ, blockQ]; refine ⟨k1 - 1, by omega, i + 1, szI (ix es i).row.length l, ?_, ?_, ?_, ?_, ?_, ?_, ?_, ?_, ?_⟩
        ·omega
        ·simp (disch := omega) [hE1] <;> omega
        ·simp (disch := omega) [if_t, hn, s0, s1, s5]
        ·simp (disch := omega) [if_t, hn, s0, s1, s5]
        ·simp (disch := omega) [if_t, hn, s0, s1, s5]
        ·first | omega | assumption
        ·first | omega | assumption
        ·first | omega | assumption
        ·rw [hM]; try simp_all))
    ·first | (simp at hc; done) |
      (
      (try simp at hc); (try have hcx0 := inR_t.1 hc); (try have hcx1 := isV_t.1 hc); rw [List.drop_of_length_le (by omega)] at hM; refine Runs.exit ?_; refine Runs.cseq ?_; refine Runs.regO (.inl rfl) nzc (fun R hR => ?_); simp (disch := omega) [if_t, hn, s0, s1, s5]; refine hR _ _ _ (by simp) ?_; clear hR R; refine Runs.ret ?_; dsimp only [thenQ, blockQ]; refine ⟨by simp, by simp (disch := omega) [hE1] <;> omega, ?_⟩
      simp (disch := omega) [if_t, hn, s0, s1, s5, resD, resL, resV] <;> (first | omega | (simp_all [szRows]; done) | (simp_all [szRows] <;> omega)))
   ·skip
    refine ⟨0, left - (es.length : Int), ?_, ?_, ?_, ?_, ?_, ?_, ?_, ?_, ?_⟩
    ·omega
    ·simp
    ·simp (disch := omega) [if_t, hn]
    ·simp (disch := omega) [if_t, hn]
    ·simp (disch := omega) [if_t, hn]
    ·first | omega | simp | rfl
    ·first | omega | simp | rfl
    ·first | omega | simp | rfl
    ·rw [szEs, if_neg hc0]; rfl)

set_option maxHeartbeats 1000000 in
/-- laws.eqEntry -/
@[simp] theorem c_laws_eqEntry (a b : Ent) (n : Nat) (hn : n ≠ 0) (p0 : sizL a.row ≤ 1152921504606846976) : cfg.call 49 [.agg [cl a.row, ci a.w], .agg [cl b.row, ci b.w]] n = some (bi (decide (a = b)), n, []) := by
 refine call_runs0 rfl Try.func49 rfl (by kernel_rfl) rfl (by simp (disch := omega) [low_agg, low_pt, low_fn]) ?_; obtain ⟨ar, aw⟩ := a
 obtain ⟨br, bw⟩ := b
 simp at p0; refine Runs.cseq ?_; refine Runs.regO (.inl rfl) nzc (fun R hR => ?_); simp (disch := omega) [if_t, hn]; refine hR _ _ _ (by simp) ?_; clear hR R; refine Runs.cseq ?_; refine Runs.cseq ?_; refine Runs.regO (.inl rfl) nzc (fun R hR => ?_); simp (disch := omega) [if_t, hn]; refine hR _ _ _ (by simp) ?_; clear hR R; refine Runs.condI fun d hd => ?_; simp (disch := omega) [if_t, hn] at hd; subst hd; refine cond_b (fun hc => ?_) (fun hc => ?_)
 ·first | (simp at hc; done) |
   (
   (try simp at hc); (try have hcx0 := inR_t.1 hc); (try have hcx1 := isV_t.1 hc); refine Runs.cseq ?_; refine Runs.regO (.inl rfl) nzc (fun R hR => ?_); simp (disch := omega) [if_t, hn]; refine hR _ _ _ (by simp) ?_; clear hR R; refine Runs.ret ?_; dsimp only [thenQ, blockQ]; refine ⟨by simp, by simp (disch := omega) <;> omega, ?_⟩
   simp (disch := omega) [if_t, hn, resD, resL, resV] <;> (first | omega | (simp_all; done) | (simp_all <;> omega)))
 ·first | (simp at hc; done) |
   (
   (try simp at hc); (try have hcx0 := inR_t.1 hc); (try have hcx1 := isV_t.1 hc); refine Runs.skip ?_; refine Runs.cseq ?_; refine Runs.cseq ?_; refine Runs.regO (.inl rfl) nzc (fun R hR => ?_); simp (disch := omega) [if_t, hn]; refine hR _ _ _ (by simp) ?_; clear hR R; refine Runs.condI fun d hd => ?_; simp (disch := omega) [if_t, hn] at hd; subst hd; refine cond_b (fun hc => ?_) (fun hc => ?_)
   ·first | (simp at hc; done) |
     (
     (try simp at hc); (try have hcx0 := inR_t.1 hc); (try have hcx1 := isV_t.1 hc); refine Runs.cseq ?_; refine Runs.regO (.inl rfl) nzc (fun R hR => ?_); simp (disch := omega) [if_t, hn]; refine hR _ _ _ (by simp) ?_; clear hR R; refine Runs.ret ?_; dsimp only [thenQ, blockQ]; refine ⟨by simp, by simp (disch := omega) <;> omega, ?_⟩
     simp (disch := omega) [if_t, hn, resD, resL, resV] <;> (first | omega | (simp_all; done) | (simp_all <;> omega)))
   ·first | (simp at hc; done) |
     (
     (try simp at hc); (try have hcx0 := inR_t.1 hc); (try have hcx1 := isV_t.1 hc); refine Runs.skip ?_; refine Runs.cseq ?_; refine Runs.regO (.inl rfl) nzc (fun R hR => ?_); simp (disch := omega) [if_t, hn]; refine hR _ _ _ (by simp) ?_; clear hR R; refine Runs.ret ?_; dsimp only [thenQ, blockQ]; refine ⟨by simp, by simp (disch := omega) <;> omega, ?_⟩
     simp (disch := omega) [if_t, hn, resD, resL, resV] <;> (first | omega | (simp_all; done) | (simp_all <;> omega))))

set_option maxHeartbeats 1000000 in
/-- laws.eqEntryS -/
@[simp] theorem c_laws_eqEntryS (xs ys : List Ent) (n : Nat) (hn : n ≠ 0) (p0 : sizL xs ≤ 1152921504606846976) : cfg.call 19 [cl xs, cl ys] n = some (bi (decide (xs = ys)), n, []) := by
 refine call_runs0 rfl Try.func19 rfl (by kernel_rfl) rfl (by simp (disch := omega) [low_agg, low_pt, low_fn]) ?_; have hl_xs := len_siz xs
 refine Runs.cseq ?_; refine Runs.regO (.inl rfl) nzc (fun R hR => ?_); simp (disch := omega) [if_t, hn]; refine hR _ _ _ (by simp) ?_; clear hR R; refine Runs.cseq ?_; refine Runs.cseq ?_; refine Runs.regO (.inl rfl) nzc (fun R hR => ?_); simp (disch := omega) [if_t, hn]; refine hR _ _ _ (by simp) ?_; clear hR R; refine Runs.condI fun d hd => ?_; simp (disch := omega) [if_t, hn] at hd; subst hd; refine cond_b (fun hc => ?_) (fun hc => ?_)
 ·first | (simp at hc; done) |
   (
   (try simp at hc); (try have hcx0 := inR_t.1 hc); (try have hcx1 := isV_t.1 hc); have hne : ¬ xs = ys := fun h => hc (by rw [h])
   refine Runs.cseq ?_; refine Runs.regO (.inl rfl) nzc (fun R hR => ?_); simp (disch := omega) [if_t, hn]; refine hR _ _ _ (by simp) ?_; clear hR R; refine Runs.ret ?_; dsimp only [thenQ, blockQ]; refine ⟨by simp, by simp (disch := omega) <;> omega, ?_⟩
   simp (disch := omega) [if_t, hn, resD, resL, resV] <;> (first | omega | (simp_all; done) | (simp_all <;> omega)))
 ·first | (simp at hc; done) |
   (
   (try simp at hc); (try have hcx0 := inR_t.1 hc); (try have hcx1 := isV_t.1 hc); have hle : xs.length = ys.length := by omega
   refine Runs.skip ?_; refine Runs.cseq ?_; refine Runs.cseq ?_; refine Runs.regO (.inl rfl) nzc (fun R hR => ?_); simp (disch := omega) [if_t, hn]; refine hR _ _ _ (by simp) ?_; clear hR R; refine Runs.cblock ?_; refine Runs.loop (fun k fr n' E => ∃ (i : Nat), n ≤ n' ∧ Go.Cv.Loc n E ∧ fr 0 = cl xs ∧ fr 1 = cl ys ∧ fr 5 = ci (i : Int) ∧ i + k = xs.length ∧ decide (xs = ys) = decide (xs.drop i = ys.drop i)) ?_ (k := xs.length) ?_
   ·rintro k1 fr n1 E1 ⟨i, hn1, hE1, s0, s1, s5, hk, hM⟩
    have hz1 : n1 ≠ 0 := by omega
    refine Runs.cseq ?_; refine Runs.cseq ?_; refine Runs.regO (.inl rfl) nzc (fun R hR => ?_); simp (disch := omega) [if_t, hn, s0, s1, s5]; refine hR _ _ _ (by simp) ?_; clear hR R; refine Runs.condI fun d hd => ?_; simp (disch := omega) [if_t, hn, s0, s1, s5] at hd; subst hd; refine cond_b (fun hc => ?_) (fun hc => ?_)
    ·first | (simp at hc; done) |
      (
      (try simp at hc); (try have hcx0 := inR_t.1 hc); (try have hcx1 := isV_t.1 hc); have hsz := siz_ix hc
      (try simp at hsz); rw [drop_ix hc] at hM; rw [drop_ix (xs := ys) (i := i) (by omega), cons_eq] at hM; refine Runs.skip ?_; refine Runs.cseq ?_; refine Runs.cblock ?_; refine Runs.cseq ?_; refine Runs.regO (.inr (by kernel_rfl)) nzc (fun R hR => ?_); simp (disch := omega) [if_t, hn, s0, s1, s5]; refine hR _ _ _ (by simp) ?_; clear hR R; refine Runs.condI fun d hd => ?_; simp (disch := omega) [if_t, hn, s0, s1, s5] at hd; subst hd; refine cond_b (fun hc => ?_) (fun hc => ?_)
      ·first | (simp at hc; done) |
        (
        (try simp at hc); (try have hcx0 := inR_t.1 hc); (try have hcx1 := isV_t.1 hc); rw [decide_eq_false hc, Bool.false_and] at hM; refine Runs.cseq ?_; refine Runs.regO (.inl rfl) nzc (fun R hR => ?_); simp (disch := omega) [if_t, hn, s0, s1, s5]; refine hR _ _ _ (by simp) ?_; clear hR R; refine Runs.ret ?_; dsimp only [thenQ, blockQ]; refine ⟨by simp, by simp (disch := omega) [hE1] <;> omega, ?_⟩
        simp (disch := omega) [if_t, hn, s0, s1, s5, resD, resL, resV] <;> (first | omega | (simp_all; done) | (simp_all <;> omega)))
      ·first | (simp at hc; done) |
        (
        (try simp at hc); (try have hcx0 := inR_t.1 hc); (try have hcx1 := isV_t.1 hc); rw [decide_eq_true hc, Bool.true_and] at hM; refine Runs.skip ?_; refine Runs.regO (.inl rfl) nzc (fun R hR => ?_); simp (disch := omega) [if_t, hn, s0, s1, s5]; refine hR _ _ _ (by simp) ?_; clear hR R; dsimp only [thenQ, blockQ]; refine ⟨k1 - 1, by omega, i + 1, ?_, ?_, ?_, ?_, ?_, ?_, ?_⟩
        ·omega
        ·simp (disch := omega) [hE1] <;> omega
        ·simp (disch := omega) [if_t, hn, s0, s1, s5]
        ·simp (disch := omega) [if_t, hn, s0, s1, s5]
        ·simp (disch := omega) [if_t, hn, s0, s1, s5]
        ·first | omega | assumption
        ·rw [hM]))
    ·first | (simp at hc; done) |
      (
      (try simp at hc); (try have hcx0 := inR_t.1 hc); (try have hcx1 := isV_t.1 hc); rw [List.drop_of_length_le (by omega), List.drop_of_length_le (by omega)] at hM; refine Runs.exit ?_; refine Runs.cseq ?_; refine Runs.regO (.inl rfl) nzc (fun R hR => ?_); simp (disch := omega) [if_t, hn, s0, s1, s5]; refine hR _ _ _ (by simp) ?_; clear hR R; refine Runs.ret ?_; dsimp only [thenQ, blockQ]; refine ⟨by simp, by simp (disch := omega) [hE1] <;> omega, ?_⟩
      simp (disch := omega) [if_t, hn, s0, s1, s5, resD, resL, resV] <;> (first | omega | (simp_all; done) | (simp_all <;> omega)))
   ·skip
    refine ⟨0, ?_, ?_, ?_, ?_, ?_, ?_, ?_⟩
    ·omega
    ·simp
    ·simp (disch := omega) [if_t, hn]
    ·simp (disch := omega) [if_t, hn]
    ·simp (disch := omega) [if_t, hn]
    ·first | omega | simp | rfl
    ·rfl)

set_option maxHeartbeats 1000000 in
/-- laws.toIntS -/
@[simp] theorem c_laws_toIntS (xs : List Int) (n : Nat) (hn : n ≠ 0) (p0 : sizL xs ≤ 1048576) : cfg.call 17 [cl xs] n = some (own n xs, n + 1, []) := by
 refine call_runs1 rfl Try.func17 rfl (by kernel_rfl) rfl (by simp (disch := omega) [low_agg, low_pt, low_fn]) ?_; have hl_xs := len_siz xs
 refine Runs.cseq ?_; refine Runs.regO (.inl rfl) nzc (fun R hR => ?_); simp (disch := omega) [if_t, hn]; refine hR _ _ _ (by simp) ?_; clear hR R; refine Runs.cseq ?_; refine Runs.regO (.inl rfl) nzc (fun R hR => ?_); simp (disch := omega) [if_t, hn]; refine hR _ _ _ (by simp) ?_; clear hR R; refine Runs.cseq ?_; refine Runs.cseq ?_; refine Runs.regO (.inl rfl) nzc (fun R hR => ?_); simp (disch := omega) [if_t, hn]; refine hR _ _ _ (by simp) ?_; clear hR R; refine Runs.cblock ?_; refine Runs.loop (fun k fr n' E => ∃ (i : Nat), n + 1 ≤ n' ∧ Go.Cv.Loc n E ∧ fr 0 = cl xs ∧ fr 3 = .sl n 0 none 1 (lst (xs.take i ++ List.replicate k 0)) ∧ fr 4 = ci (i : Int) ∧ i + k = xs.length) ?_ (k := xs.length) ?_
 ·rintro k1 fr n1 E1 ⟨i, hn1, hE1, s0, s3, s4, hk⟩
  have hz1 : n1 ≠ 0 := by omega
  refine Runs.cseq ?_; refine Runs.cseq ?_; refine Runs.regO (.inl rfl) nzc (fun R hR => ?_); simp (disch := omega) [if_t, hn, s0, s3, s4]; refine hR _ _ _ (by simp) ?_; clear hR R; refine Runs.condI fun d hd => ?_; simp (disch := omega) [if_t, hn, s0, s3, s4] at hd; subst hd; refine cond_b (fun hc => ?_) (fun hc => ?_)
  ·first | (simp at hc; done) |
    (
    (try simp at hc); (try have hcx0 := inR_t.1 hc); (try have hcx1 := isV_t.1 hc); obtain ⟨k1, rfl⟩ : ∃ j, k1 = j + 1 := ⟨k1 - 1, by omega⟩
    refine Runs.skip ?_; refine Runs.cseq ?_; refine Runs.cblock ?_; refine Runs.regO (.inl rfl) nzc (fun R hR => ?_); simp (disch := omega) [if_t, hn, s0, s3, s4]; refine hR _ _ _ (by simp) ?_; clear hR R; refine Runs.regO (.inl rfl) nzc (fun R hR => ?_); simp (disch := omega) [if_t, hn, s0, s3, s4]; refine hR _ _ _ (by simp) ?_; clear hR R; dsimp only [thenQ, blockQ]; refine ⟨k1, by omega, i + 1, ?_, ?_, ?_, ?_, ?_, ?_⟩
    ·omega
    ·simp (disch := omega) [hE1] <;> omega
    ·simp (disch := omega) [if_t, hn, s0, s3, s4]
    ·simp (disch := omega) [if_t, hn, s0, s3, s4]
    ·simp (disch := omega) [if_t, hn, s0, s3, s4]
    ·first | omega | assumption)
  ·first | (simp at hc; done) |
    (
    (try simp at hc); (try have hcx0 := inR_t.1 hc); (try have hcx1 := isV_t.1 hc); obtain rfl : k1 = 0 := by omega
    obtain rfl : i = xs.length := by omega
    simp at s3; refine Runs.exit ?_; refine Runs.cseq ?_; refine Runs.regO (.inl rfl) nzc (fun R hR => ?_); simp (disch := omega) [if_t, hn, s0, s3, s4]; refine hR _ _ _ (by simp) ?_; clear hR R; refine Runs.ret ?_; dsimp only [thenQ, blockQ]; refine ⟨by simp, by simp (disch := omega) [hE1] <;> omega, ?_⟩
    simp (disch := omega) [if_t, hn, s0, s3, s4, resD, resL, resV] <;> (first | omega | (simp_all; done) | (simp_all <;> omega)))
 ·skip
  refine ⟨0, ?_, ?_, ?_, ?_, ?_, ?_⟩
  ·omega
  ·simp
  ·simp (disch := omega) [if_t, hn]
  ·simp (disch := omega) [if_t, hn]
  ·simp (disch := omega) [if_t, hn]
  ·first | omega | simp | rfl

set_option maxHeartbeats 1000000 in
/-- laws.toEntry -/
@[simp] theorem c_laws_toEntry (e : Ent) (n : Nat) (hn : n ≠ 0) (p0 : sizL e.row ≤ 1048576) : cfg.call 45 [.agg [cl e.row, ci e.w]] n = some (own n e, n + 1, []) := by
 refine call_runs1 rfl Try.func45 rfl (by kernel_rfl) rfl (by simp (disch := omega) [low_agg, low_pt, low_fn]) ?_; refine Runs.cseq ?_; refine Runs.regO (.inl rfl) nzc (fun R hR => ?_); simp (disch := omega) [if_t, hn]; refine hR _ _ _ (by simp) ?_; clear hR R; refine Runs.cseq ?_; refine Runs.regO (.inl rfl) nzc (fun R hR => ?_); simp (disch := omega) [if_t, hn]; refine hR _ _ _ (by simp) ?_; clear hR R; refine Runs.cseq ?_; refine Runs.regO (.inl rfl) nzc (fun R hR => ?_); simp (disch := omega) [if_t, hn]; refine hR _ _ _ (by simp) ?_; clear hR R; refine Runs.cseq ?_; refine Runs.regO (.inl rfl) nzc (fun R hR => ?_); simp (disch := omega) [if_t, hn]; refine hR _ _ _ (by simp) ?_; clear hR R; refine Runs.cseq ?_; refine Runs.regO (.inl rfl) nzc (fun R hR => ?_); simp (disch := omega) [if_t, hn]; refine hR _ _ _ (by simp) ?_; clear hR R; refine Runs.ret ?_; dsimp only [thenQ, blockQ]; refine ⟨by simp, by simp (disch := omega) <;> omega, ?_⟩
 simp (disch := omega) [if_t, hn, resD, resL, resV, keptD_agg_row] <;> (first | omega | (simp_all; done) | (simp_all <;> omega))

set_option maxHeartbeats 1000000 in
/-- laws.toEntryS -/
@[simp] theorem c_laws_toEntryS (es : List Ent) (n : Nat) (hn : n ≠ 0) (p0 : sizL es ≤ 1048576) : cfg.call 16 [cl es] n = some (own n es, n + cnt es, []) := by
 refine call_runs1 rfl Try.func16 rfl (by kernel_rfl) rfl (by simp (disch := omega) [low_agg, low_pt, low_fn]) ?_; have hl_es := len_siz es
 refine Runs.cseq ?_; refine Runs.regO (.inl rfl) nzc (fun R hR => ?_); simp (disch := omega) [if_t, hn]; refine hR _ _ _ (by simp) ?_; clear hR R; refine Runs.cseq ?_; refine Runs.regO (.inl rfl) nzc (fun R hR => ?_); simp (disch := omega) [if_t, hn]; refine hR _ _ _ (by simp) ?_; clear hR R; refine Runs.cseq ?_; refine Runs.cseq ?_; refine Runs.regO (.inl rfl) nzc (fun R hR => ?_); simp (disch := omega) [if_t, hn]; refine hR _ _ _ (by simp) ?_; clear hR R; refine Runs.cblock ?_; refine Runs.loop (fun k fr n' E => ∃ (i : Nat) (ts : List (Nat × Ent)), n + 1 ≤ n' ∧ Go.Cv.Loc n E ∧ fr 0 = cl es ∧ fr 3 = .sl n 0 none 2 (tl ts ++ List.replicate k (.agg [nilD, ci 0])) ∧ fr 4 = ci (i : Int) ∧ i + k = es.length ∧ ts.length = i ∧ vals ts = es.take i ∧ Sep (n + 1) n' ts) ?_ (k := es.length) ?_
 ·rintro k1 fr n1 E1 ⟨i, ts, hn1, hE1, s0, s3, s4, hk, hl, hM, hS⟩
  have hz1 : n1 ≠ 0 := by omega
  refine Runs.cseq ?_; refine Runs.cseq ?_; refine Runs.regO (.inl rfl) nzc (fun R hR => ?_); simp (disch := omega) [if_t, hn, s0, s3, s4]; refine hR _ _ _ (by simp) ?_; clear hR R; refine Runs.condI fun d hd => ?_; simp (disch := omega) [if_t, hn, s0, s3, s4] at hd; subst hd; refine cond_b (fun hc => ?_) (fun hc => ?_)
  ·first | (simp at hc; done) |
    (
    (try simp at hc); (try have hcx0 := inR_t.1 hc); (try have hcx1 := isV_t.1 hc); obtain ⟨k1, rfl⟩ : ∃ j, k1 = j + 1 := ⟨k1 - 1, by omega⟩
    have hsz := siz_ix hc
    simp at hsz; refine Runs.skip ?_; refine Runs.cseq ?_; refine Runs.cblock ?_; refine Runs.regO (.inl rfl) nzc (fun R hR => ?_); simp (disch := omega) [if_t, hn, s0, s3, s4, index_tl, hl]; refine hR _ _ _ (by simp) ?_; clear hR R; refine Runs.regO (.inl rfl) nzc (fun R hR => ?_); simp (disch := omega) [if_t, hn, s0, s3, s4]; refine hR _ _ _ (by simp) ?_; clear hR R; dsimp only [thenQ, blockQ]; refine ⟨k1, by omega, i + 1, ts ++ [(n1, ix es i)], ?_, ?_, ?_, ?_, ?_, ?_, ?_, ?_, ?_⟩
    ·omega
    ·simp (disch := omega) [hE1] <;> omega
    ·simp (disch := omega) [if_t, hn, s0, s3, s4]
    ·simp (disch := omega) [if_t, hn, s0, s3, s4, List.replicate_succ, setFlat_cons, hl, hS.wrlo, Nat.add_assoc, sfl_tle]
     simp [tl]
    ·simp (disch := omega) [if_t, hn, s0, s3, s4]
    ·first | omega | assumption
    ·simp [hl]
    ·rw [take_ix hc, ← hM]; simp
    ·exact hS.snoc (by omega) (Nat.le_refl _) (by simp))
  ·first | (simp at hc; done) |
    (
    (try simp at hc); (try have hcx0 := inR_t.1 hc); (try have hcx1 := isV_t.1 hc); obtain rfl : k1 = 0 := by omega
    obtain rfl : i = es.length := by omega
    simp at s3; refine Runs.exit ?_; refine Runs.cseq ?_; refine Runs.regO (.inl rfl) nzc (fun R hR => ?_); simp (disch := omega) [if_t, hn, s0, s3, s4]; refine hR _ _ _ (by simp) ?_; clear hR R; refine Runs.ret ?_; dsimp only [thenQ, blockQ]; refine ⟨by simp, by simp (disch := omega) [hE1] <;> omega, ?_⟩
    have hlo : n ≤ n + 1 := by omega
    have hS2 : Sep n n1 ts := ⟨fun q hq => ⟨by have := (hS.rng q hq).1; omega, (hS.rng q hq).2⟩, hS.nd⟩
    have hkp := keptD_tl hn hS2 (Nat.le_refl n) (fun hm => by have := (hS.rng n hm).1; omega)
    rw [hM, List.take_length] at hkp; simp (disch := omega) [resD, resL, resV, s3]; simpa using hkp)
 ·skip
  refine ⟨0, [], ?_, ?_, ?_, ?_, ?_, ?_, ?_, ?_, ?_⟩
  ·omega
  ·simp
  ·simp (disch := omega) [if_t, hn]
  ·simp (disch := omega) [if_t, hn]
  ·simp (disch := omega) [if_t, hn]
  ·first | omega | simp | rfl
  ·first | omega | simp | rfl
  ·simp
  ·exact Sep.nil _ _

def validT (t : Tim) : Bool := inR t.e 0 99 && inR t.r 0 99
def tle (a b : Tim) : Bool := decide (a.e ≤ b.e) && decide (a.r ≤ b.r)
def tbf (a b : Tim) : Bool := decide (a.e < b.e) || (decide (a.e = b.e) && decide (a.r < b.r))
def cmpT (a b : Tim) : Int := if tbf a b then -1 else if tbf b a then 1 else 0
def cov : List Tim → Tim → Bool
  | [], _ => false
  | u :: us, t => tle u t || cov us t
def allF (p : Nat → Bool) (i : Nat) : Nat → Bool
  | 0 => true
  | m + 1 => p i && allF p (i + 1) m
theorem allF_iff (p : Nat → Bool) : ∀ (m i : Nat), allF p i m = true ↔ ∀ j, i ≤ j → j < i + m → p j = true
  | 0, i => by simp [allF]; intro j h1 h2; omega
  | m + 1, i => by
    rw [allF, Bool.and_eq_true, allF_iff p m (i + 1)]
    constructor
    · rintro ⟨h1, h2⟩ j a b
      by_cases hj : j = i
      · rw [hj]; exact h1
      · exact h2 j (by omega) (by omega)
    · intro h
      exact ⟨h i (Nat.le_refl _) (by omega), fun j a b => h j (by omega) (by omega)⟩
def okFr (f : List Tim) (i : Nat) : Bool := validT (ix f i) && ((decide (i = 0) || tbf (ix f (i - 1)) (ix f i)) && allF (fun k => !tle (ix f k) (ix f i)) 0 i)
def validF (f : List Tim) : Bool := allF (okFr f) 0 f.length && decide (f.length ≤ 100)
def okFI (f : List Tim) (i : Nat) : Bool := validT (ix f i) && ((decide (i = 0) || tbf (ix f (i - 1)) (ix f i)) && allF (fun k => decide (k = i) || !tle (ix f k) (ix f i)) 0 f.length)
def validFI (f : List Tim) : Bool := allF (okFI f) 0 f.length && decide (f.length ≤ 100)
theorem sorted_lt {f : List Tim} {m : Nat} (h : ∀ j, 0 < j → j < m → tbf (ix f (j - 1)) (ix f j) = true) : ∀ d i, i + d + 1 < m → tbf (ix f i) (ix f (i + d + 1)) = true
  | 0, i, hi => h (i + 1) (by omega) hi
  | d + 1, i, hi => by
    have h1 := sorted_lt h d i (by omega)
    have h2 := h (i + (d + 1) + 1) (by omega) hi
    simp only [Nat.add_sub_cancel] at h2
    rw [show i + (d + 1) = i + d + 1 by omega] at h2 ⊢
    simp only [tbf, Bool.or_eq_true, Bool.and_eq_true, decide_eq_true_eq] at h1 h2 ⊢
    omega
theorem validFI_eq (f : List Tim) : validFI f = validF f := by
  unfold validFI validF
  congr 1
  rw [Bool.eq_iff_iff, allF_iff, allF_iff]
  constructor
  · intro h j a b
    have h1 := h j a b
    simp only [okFI, okFr, Bool.and_eq_true, allF_iff] at h1 ⊢
    refine ⟨h1.1, h1.2.1, fun k hk1 hk2 => ?_⟩
    have := h1.2.2 k hk1 (by omega)
    simp only [Bool.or_eq_true, decide_eq_true_eq] at this
    rcases this with h | h
    · omega
    · exact h
  · intro h j a b
    have hs : ∀ q, 0 < q → q < f.length → tbf (ix f (q - 1)) (ix f q) = true := fun q q1 q2 => by
      have := h q (by omega) (by omega)
      simp only [okFr, Bool.and_eq_true, Bool.or_eq_true, decide_eq_true_eq] at this
      rcases this.2.1 with h | h
      · omega
      · exact h
    have h1 := h j a b
    simp only [okFI, okFr, Bool.and_eq_true, allF_iff] at h1 ⊢
    refine ⟨h1.1, h1.2.1, fun k hk1 hk2 => ?_⟩
    simp only [Bool.or_eq_true, decide_eq_true_eq]
    by_cases hkj : k = j
    · exact .inl hkj
    · right
      by_cases hlt : k < j
      · exact h1.2.2 k hk1 (by omega)
      · have h2 := sorted_lt hs (k - j - 1) j (by omega)
        rw [show j + (k - j - 1) + 1 = k by omega] at h2
        simp only [tbf, tle, Bool.or_eq_true, Bool.and_eq_true, decide_eq_true_eq, Bool.not_eq_true', Bool.and_eq_false_iff, decide_eq_false_iff_not] at h2 ⊢
        omega

set_option maxHeartbeats 1000000 in
/-- impl.ValidTime -/
@[simp] theorem c_impl_ValidTime (t : Tim) (n : Nat) (hn : n ≠ 0)  : cfg.call 82 [.agg [ci t.e, ci t.r]] n = some (bi (validT t), n, []) := by
 refine call_runs0 rfl Try.func82 rfl (by kernel_rfl) rfl (by simp (disch := omega) [low_agg, low_pt, low_fn]) ?_; refine Runs.cseq ?_; refine Runs.regO (.inl rfl) nzc (fun R hR => ?_); simp (disch := omega) [if_t, hn]; refine hR _ _ _ (by simp) ?_; clear hR R; refine Runs.cseq ?_; refine Runs.regO (.inl rfl) nzc (fun R hR => ?_); repeat' (first | (simp (disch := omega) [if_t, hn]) | (with_reducible refine RunsW.splitN (fun hb => ?_) (fun hb => ?_) <;> (try simp only [hb]) <;> (try simp at hb) <;> (try have hx0 := inR_t.1 hb) <;> (try have hx1 := isV_t.1 hb)) | (with_reducible refine RunsW.split (fun hb => ?_) (fun hb => ?_) <;> (try simp only [hb]) <;> (try simp at hb) <;> (try have hx0 := inR_t.1 hb) <;> (try have hx1 := isV_t.1 hb)))
 all_goals (
  refine hR _ _ _ (by simp) ?_; clear hR R; refine Runs.ret ?_; dsimp only [thenQ, blockQ]; refine ⟨by simp, by simp (disch := omega) <;> omega, ?_⟩
  simp (disch := omega) [if_t, hn, resD, resL, resV] <;> (first | omega | (simp_all [validT, inR]; done) | (simp_all [validT, inR] <;> omega)))

set_option maxHeartbeats 1000000 in
/-- spec.validTime -/
@[simp] theorem c_spec_validTime (t : Tim) (n : Nat) (hn : n ≠ 0)  : cfg.call 91 [.agg [ci t.e, ci t.r]] n = some (bi (validT t), n, []) := by
 refine call_runs0 rfl Try.func91 rfl (by kernel_rfl) rfl (by simp (disch := omega) [low_agg, low_pt, low_fn]) ?_; refine Runs.cseq ?_; refine Runs.regO (.inl rfl) nzc (fun R hR => ?_); simp (disch := omega) [if_t, hn]; refine hR _ _ _ (by simp) ?_; clear hR R; refine Runs.cseq ?_; refine Runs.regO (.inl rfl) nzc (fun R hR => ?_); repeat' (first | (simp (disch := omega) [if_t, hn]) | (with_reducible refine RunsW.splitN (fun hb => ?_) (fun hb => ?_) <;> (try simp only [hb]) <;> (try simp at hb) <;> (try have hx0 := inR_t.1 hb) <;> (try have hx1 := isV_t.1 hb)) | (with_reducible refine RunsW.split (fun hb => ?_) (fun hb => ?_) <;> (try simp only [hb]) <;> (try simp at hb) <;> (try have hx0 := inR_t.1 hb) <;> (try have hx1 := isV_t.1 hb)))
 all_goals (
  refine hR _ _ _ (by simp) ?_; clear hR R; refine Runs.ret ?_; dsimp only [thenQ, blockQ]; refine ⟨by simp, by simp (disch := omega) <;> omega, ?_⟩
  simp (disch := omega) [if_t, hn, resD, resL, resV] <;> (first | omega | (simp_all [validT, inR]; done) | (simp_all [validT, inR] <;> omega)))

set_option maxHeartbeats 1000000 in
/-- impl.TimeLessEqual -/
@[simp] theorem c_impl_TimeLessEqual (a b : Tim) (n : Nat) (hn : n ≠ 0)  : cfg.call 84 [.agg [ci a.e, ci a.r], .agg [ci b.e, ci b.r]] n = some (bi (tle a b), n, []) := by
 refine call_runs0 rfl Try.func84 rfl (by kernel_rfl) rfl (by simp (disch := omega) [low_agg, low_pt, low_fn]) ?_; refine Runs.cseq ?_; refine Runs.regO (.inl rfl) nzc (fun R hR => ?_); simp (disch := omega) [if_t, hn]; refine hR _ _ _ (by simp) ?_; clear hR R; refine Runs.cseq ?_; refine Runs.regO (.inl rfl) nzc (fun R hR => ?_); repeat' (first | (simp (disch := omega) [if_t, hn]) | (with_reducible refine RunsW.splitN (fun hb => ?_) (fun hb => ?_) <;> (try simp only [hb]) <;> (try simp at hb) <;> (try have hx0 := inR_t.1 hb) <;> (try have hx1 := isV_t.1 hb)) | (with_reducible refine RunsW.split (fun hb => ?_) (fun hb => ?_) <;> (try simp only [hb]) <;> (try simp at hb) <;> (try have hx0 := inR_t.1 hb) <;> (try have hx1 := isV_t.1 hb)))
 all_goals (
  refine hR _ _ _ (by simp) ?_; clear hR R; refine Runs.ret ?_; dsimp only [thenQ, blockQ]; refine ⟨by simp, by simp (disch := omega) <;> omega, ?_⟩
  simp (disch := omega) [if_t, hn, resD, resL, resV] <;> (first | omega | (simp_all [tle]; done) | (simp_all [tle] <;> omega)))

set_option maxHeartbeats 1000000 in
/-- spec.timeLessEqual -/
@[simp] theorem c_spec_timeLessEqual (a b : Tim) (n : Nat) (hn : n ≠ 0)  : cfg.call 93 [.agg [ci a.e, ci a.r], .agg [ci b.e, ci b.r]] n = some (bi (tle a b), n, []) := by
 refine call_runs0 rfl Try.func93 rfl (by kernel_rfl) rfl (by simp (disch := omega) [low_agg, low_pt, low_fn]) ?_; refine Runs.cseq ?_; refine Runs.regO (.inl rfl) nzc (fun R hR => ?_); simp (disch := omega) [if_t, hn]; refine hR _ _ _ (by simp) ?_; clear hR R; refine Runs.cseq ?_; refine Runs.regO (.inl rfl) nzc (fun R hR => ?_); repeat' (first | (simp (disch := omega) [if_t, hn]) | (with_reducible refine RunsW.splitN (fun hb => ?_) (fun hb => ?_) <;> (try simp only [hb]) <;> (try simp at hb) <;> (try have hx0 := inR_t.1 hb) <;> (try have hx1 := isV_t.1 hb)) | (with_reducible refine RunsW.split (fun hb => ?_) (fun hb => ?_) <;> (try simp only [hb]) <;> (try simp at hb) <;> (try have hx0 := inR_t.1 hb) <;> (try have hx1 := isV_t.1 hb)))
 all_goals (
  refine hR _ _ _ (by simp) ?_; clear hR R; refine Runs.ret ?_; dsimp only [thenQ, blockQ]; refine ⟨by simp, by simp (disch := omega) <;> omega, ?_⟩
  simp (disch := omega) [if_t, hn, resD, resL, resV] <;> (first | omega | (simp_all [tle]; done) | (simp_all [tle] <;> omega)))

set_option maxHeartbeats 1000000 in
/-- impl.TimeBefore -/
@[simp] theorem c_impl_TimeBefore (a b : Tim) (n : Nat) (hn : n ≠ 0)  : cfg.call 96 [.agg [ci a.e, ci a.r], .agg [ci b.e, ci b.r]] n = some (bi (tbf a b), n, []) := by
 refine call_runs0 rfl Try.func96 rfl (by kernel_rfl) rfl (by simp (disch := omega) [low_agg, low_pt, low_fn]) ?_; refine Runs.cseq ?_; refine Runs.regO (.inl rfl) nzc (fun R hR => ?_); simp (disch := omega) [if_t, hn]; refine hR _ _ _ (by simp) ?_; clear hR R; refine Runs.cseq ?_; refine Runs.regO (.inl rfl) nzc (fun R hR => ?_); repeat' (first | (simp (disch := omega) [if_t, hn]) | (with_reducible refine RunsW.splitN (fun hb => ?_) (fun hb => ?_) <;> (try simp only [hb]) <;> (try simp at hb) <;> (try have hx0 := inR_t.1 hb) <;> (try have hx1 := isV_t.1 hb)) | (with_reducible refine RunsW.split (fun hb => ?_) (fun hb => ?_) <;> (try simp only [hb]) <;> (try simp at hb) <;> (try have hx0 := inR_t.1 hb) <;> (try have hx1 := isV_t.1 hb)))
 all_goals (
  refine hR _ _ _ (by simp) ?_; clear hR R; refine Runs.ret ?_; dsimp only [thenQ, blockQ]; refine ⟨by simp, by simp (disch := omega) <;> omega, ?_⟩
  simp (disch := omega) [if_t, hn, resD, resL, resV] <;> (first | omega | (simp_all [tbf]; done) | (simp_all [tbf] <;> omega)))

set_option maxHeartbeats 1000000 in
/-- spec.timeBefore -/
@[simp] theorem c_spec_timeBefore (a b : Tim) (n : Nat) (hn : n ≠ 0)  : cfg.call 92 [.agg [ci a.e, ci a.r], .agg [ci b.e, ci b.r]] n = some (bi (tbf a b), n, []) := by
 refine call_runs0 rfl Try.func92 rfl (by kernel_rfl) rfl (by simp (disch := omega) [low_agg, low_pt, low_fn]) ?_; refine Runs.cseq ?_; refine Runs.regO (.inl rfl) nzc (fun R hR => ?_); simp (disch := omega) [if_t, hn]; refine hR _ _ _ (by simp) ?_; clear hR R; refine Runs.cseq ?_; refine Runs.regO (.inl rfl) nzc (fun R hR => ?_); repeat' (first | (simp (disch := omega) [if_t, hn]) | (with_reducible refine RunsW.splitN (fun hb => ?_) (fun hb => ?_) <;> (try simp only [hb]) <;> (try simp at hb) <;> (try have hx0 := inR_t.1 hb) <;> (try have hx1 := isV_t.1 hb)) | (with_reducible refine RunsW.split (fun hb => ?_) (fun hb => ?_) <;> (try simp only [hb]) <;> (try simp at hb) <;> (try have hx0 := inR_t.1 hb) <;> (try have hx1 := isV_t.1 hb)))
 all_goals (
  refine hR _ _ _ (by simp) ?_; clear hR R; refine Runs.ret ?_; dsimp only [thenQ, blockQ]; refine ⟨by simp, by simp (disch := omega) <;> omega, ?_⟩
  simp (disch := omega) [if_t, hn, resD, resL, resV] <;> (first | omega | (simp_all [tbf]; done) | (simp_all [tbf] <;> omega)))

set_option maxHeartbeats 1000000 in
/-- impl.compareTimes -/
@[simp] theorem c_impl_compareTimes (a b : Tim) (n : Nat) (hn : n ≠ 0)  : cfg.call 98 [.agg [ci a.e, ci a.r], .agg [ci b.e, ci b.r]] n = some (ci (cmpT a b), n, []) := by
 refine call_runs0 rfl Try.func98 rfl (by kernel_rfl) rfl (by simp (disch := omega) [low_agg, low_pt, low_fn]) ?_; refine Runs.cseq ?_; refine Runs.regO (.inl rfl) nzc (fun R hR => ?_); simp (disch := omega) [if_t, hn]; refine hR _ _ _ (by simp) ?_; clear hR R; refine Runs.cseq ?_; refine Runs.cblock ?_; refine Runs.cseq ?_; refine Runs.regO (.inl rfl) nzc (fun R hR => ?_); simp (disch := omega) [if_t, hn]; refine hR _ _ _ (by simp) ?_; clear hR R; refine Runs.condI fun d hd => ?_; simp (disch := omega) [if_t, hn] at hd; subst hd; refine cond_b (fun hc => ?_) (fun hc => ?_)
 ·first | (simp at hc; done) |
   (
   (try simp at hc); (try have hcx0 := inR_t.1 hc); (try have hcx1 := isV_t.1 hc); refine Runs.cseq ?_; refine Runs.regO (.inl rfl) nzc (fun R hR => ?_); simp (disch := omega) [if_t, hn]; refine hR _ _ _ (by simp) ?_; clear hR R; refine Runs.ret ?_; dsimp only [thenQ, blockQ]; refine ⟨by simp, by simp (disch := omega) <;> omega, ?_⟩
   simp (disch := omega) [if_t, hn, resD, resL, resV] <;> (first | omega | (simp_all [cmpT]; done) | (simp_all [cmpT] <;> omega)))
 ·first | (simp at hc; done) |
   (
   (try simp at hc); (try have hcx0 := inR_t.1 hc); (try have hcx1 := isV_t.1 hc); refine Runs.cseq ?_; refine Runs.regO (.inl rfl) nzc (fun R hR => ?_); simp (disch := omega) [if_t, hn]; refine hR _ _ _ (by simp) ?_; clear hR R; refine Runs.condI fun d hd => ?_; simp (disch := omega) [if_t, hn] at hd; subst hd; refine cond_b (fun hc => ?_) (fun hc => ?_)
   ·first | (simp at hc; done) |
     (
     (try simp at hc); (try have hcx0 := inR_t.1 hc); (try have hcx1 := isV_t.1 hc); refine Runs.cseq ?_; refine Runs.regO (.inl rfl) nzc (fun R hR => ?_); simp (disch := omega) [if_t, hn]; refine hR _ _ _ (by simp) ?_; clear hR R; refine Runs.ret ?_; dsimp only [thenQ, blockQ]; refine ⟨by simp, by simp (disch := omega) <;> omega, ?_⟩
     simp (disch := omega) [if_t, hn, resD, resL, resV] <;> (first | omega | (simp_all [cmpT]; done) | (simp_all [cmpT] <;> omega)))
   ·first | (simp at hc; done) |
     (
     (try simp at hc); (try have hcx0 := inR_t.1 hc); (try have hcx1 := isV_t.1 hc); refine Runs.skip ?_; refine Runs.cseq ?_; refine Runs.regO (.inl rfl) nzc (fun R hR => ?_); simp (disch := omega) [if_t, hn]; refine hR _ _ _ (by simp) ?_; clear hR R; refine Runs.ret ?_; dsimp only [thenQ, blockQ]; refine ⟨by simp, by simp (disch := omega) <;> omega, ?_⟩
     simp (disch := omega) [if_t, hn, resD, resL, resV] <;> (first | omega | (simp_all [cmpT]; done) | (simp_all [cmpT] <;> omega))))

set_option maxHeartbeats 1000000 in
/-- spec.covers -/
@[simp] theorem c_spec_covers (f : List Tim) (t : Tim) (n : Nat) (hn : n ≠ 0) (p0 : sizL f ≤ 1152921504606846976) : cfg.call 77 [cl f, .agg [ci t.e, ci t.r]] n = some (bi (cov f t), n, []) := by
 refine call_runs0 rfl Try.func77 rfl (by kernel_rfl) rfl (by simp (disch := omega) [low_agg, low_pt, low_fn]) ?_; have hl_f := len_siz f
 refine Runs.cseq ?_; refine Runs.regO (.inl rfl) nzc (fun R hR => ?_); simp (disch := omega) [if_t, hn]; refine hR _ _ _ (by simp) ?_; clear hR R; refine Runs.cseq ?_; refine Runs.cseq ?_; refine Runs.regO (.inl rfl) nzc (fun R hR => ?_); simp (disch := omega) [if_t, hn]; refine hR _ _ _ (by simp) ?_; clear hR R; refine Runs.cblock ?_; refine Runs.loop (fun k fr n' E => ∃ (i : Nat), n + 1 ≤ n' ∧ Go.Cv.Loc n E ∧ fr 0 = cl f ∧ fr 3 = .pt n 0 [ci t.e, ci t.r] ∧ fr 5 = ci (i : Int) ∧ i + k = f.length ∧ cov f t = cov (f.drop i) t) ?_ (k := f.length) ?_
 ·rintro k1 fr n1 E1 ⟨i, hn1, hE1, s0, s3, s5, hk, hM⟩
  have hz1 : n1 ≠ 0 := by omega
  refine Runs.cseq ?_; refine Runs.cseq ?_; refine Runs.regO (.inl rfl) nzc (fun R hR => ?_); simp (disch := omega) [if_t, hn, s0, s3, s5]; refine hR _ _ _ (by simp) ?_; clear hR R; refine Runs.condI fun d hd => ?_; simp (disch := omega) [if_t, hn, s0, s3, s5] at hd; subst hd; refine cond_b (fun hc => ?_) (fun hc => ?_)
  ·first | (simp at hc; done) |
    (
    (try simp at hc); (try have hcx0 := inR_t.1 hc); (try have hcx1 := isV_t.1 hc); have hsz := siz_ix hc
    (try simp at hsz); rw [drop_ix hc] at hM; rw [cov] at hM; refine Runs.skip ?_; refine Runs.cseq ?_; refine Runs.cblock ?_; refine Runs.cseq ?_; refine Runs.regO (.inr (by kernel_rfl)) nzc (fun R hR => ?_); simp (disch := omega) [if_t, hn, s0, s3, s5]; refine hR _ _ _ (by simp) ?_; clear hR R; refine Runs.condI fun d hd => ?_; simp (disch := omega) [if_t, hn, s0, s3, s5] at hd; subst hd; refine cond_b (fun hc => ?_) (fun hc => ?_)
    ·first | (simp at hc; done) |
      (
      (try simp at hc); (try have hcx0 := inR_t.1 hc); (try have hcx1 := isV_t.1 hc); rw [hc, Bool.true_or] at hM; refine Runs.cseq ?_; refine Runs.regO (.inl rfl) nzc (fun R hR => ?_); simp (disch := omega) [if_t, hn, s0, s3, s5]; refine hR _ _ _ (by simp) ?_; clear hR R; refine Runs.ret ?_; dsimp only [thenQ, blockQ]; refine ⟨by simp, by simp (disch := omega) [hE1] <;> omega, ?_⟩
      simp (disch := omega) [if_t, hn, s0, s3, s5, resD, resL, resV] <;> (first | omega | (simp_all [cov]; done) | (simp_all [cov] <;> omega)))
    ·first | (simp at hc; done) |
      (
      (try simp at hc); (try have hcx0 := inR_t.1 hc); (try have hcx1 := isV_t.1 hc); rw [hc, Bool.false_or] at hM; refine Runs.skip ?_; refine Runs.regO (.inl rfl) nzc (fun R hR => ?_); simp (disch := omega) [if_t, hn, s0, s3, s5]; refine hR _ _ _ (by simp) ?_; clear hR R; dsimp only [thenQ, blockQ]; refine ⟨k1 - 1, by omega, i + 1, ?_, ?_, ?_, ?_, ?_, ?_, ?_⟩
      ·omega
      ·simp (disch := omega) [hE1] <;> omega
      ·simp (disch := omega) [if_t, hn, s0, s3, s5]
      ·simp (disch := omega) [if_t, hn, s0, s3, s5]
      ·simp (disch := omega) [if_t, hn, s0, s3, s5]
      ·first | omega | assumption
      ·rw [hM]))
  ·first | (simp at hc; done) |
    (
    (try simp at hc); (try have hcx0 := inR_t.1 hc); (try have hcx1 := isV_t.1 hc); rw [List.drop_of_length_le (by omega)] at hM; refine Runs.exit ?_; refine Runs.cseq ?_; refine Runs.regO (.inl rfl) nzc (fun R hR => ?_); simp (disch := omega) [if_t, hn, s0, s3, s5]; refine hR _ _ _ (by simp) ?_; clear hR R; refine Runs.ret ?_; dsimp only [thenQ, blockQ]; refine ⟨by simp, by simp (disch := omega) [hE1] <;> omega, ?_⟩
    simp (disch := omega) [if_t, hn, s0, s3, s5, resD, resL, resV] <;> (first | omega | (simp_all [cov]; done) | (simp_all [cov] <;> omega)))
 ·skip
  refine ⟨0, ?_, ?_, ?_, ?_, ?_, ?_, ?_⟩
  ·omega
  ·simp
  ·simp (disch := omega) [if_t, hn]
  ·simp (disch := omega) [if_t, hn]
  ·simp (disch := omega) [if_t, hn]
  ·first | omega | simp | rfl
  ·rfl

set_option maxHeartbeats 1000000 in
/-- impl.covers -/
@[simp] theorem c_impl_covers (f : List Tim) (t : Tim) (n : Nat) (hn : n ≠ 0) (p0 : sizL f ≤ 1152921504606846976) : cfg.call 63 [cl f, .agg [ci t.e, ci t.r]] n = some (bi (cov f t), n, []) := by
 refine call_runs0 rfl Try.func63 rfl (by kernel_rfl) rfl (by simp (disch := omega) [low_agg, low_pt, low_fn]) ?_; have hl_f := len_siz f
 refine Runs.cseq ?_; refine Runs.regO (.inl rfl) nzc (fun R hR => ?_); simp (disch := omega) [if_t, hn]; refine hR _ _ _ (by simp) ?_; clear hR R; refine Runs.cseq ?_; refine Runs.cseq ?_; refine Runs.regO (.inl rfl) nzc (fun R hR => ?_); simp (disch := omega) [if_t, hn]; refine hR _ _ _ (by simp) ?_; clear hR R; refine Runs.cblock ?_; refine Runs.loop (fun k fr n' E => ∃ (i : Nat), n + 1 ≤ n' ∧ Go.Cv.Loc n E ∧ fr 3 = .pt n 0 [ci t.e, ci t.r] ∧ fr 7 = cl f ∧ fr 8 = ci (f.length : Int) ∧ fr 9 = ci (i : Int) ∧ i + k = f.length ∧ cov f t = cov (f.drop i) t) ?_ (k := f.length) ?_
 ·rintro k1 fr n1 E1 ⟨i, hn1, hE1, s3, s7, s8, s9, hk, hM⟩
  have hz1 : n1 ≠ 0 := by omega
  refine Runs.cseq ?_; refine Runs.regO (.inl rfl) nzc (fun R hR => ?_); simp (disch := omega) [if_t, hn, s3, s7, s8, s9]; refine hR _ _ _ (by simp) ?_; clear hR R; refine Runs.cseq ?_; refine Runs.condI fun d hd => ?_; simp (disch := omega) [if_t, hn, s3, s7, s8, s9] at hd; subst hd; refine cond_b (fun hc => ?_) (fun hc => ?_)
  ·first | (simp at hc; done) |
    (
    (try simp at hc); (try have hcx0 := inR_t.1 hc); (try have hcx1 := isV_t.1 hc); have hsz := siz_ix hc
    (try simp at hsz); rw [drop_ix hc] at hM; rw [cov] at hM; refine Runs.skip ?_; refine Runs.cseq ?_; refine Runs.cblock ?_; refine Runs.cseq ?_; refine Runs.regO (.inl rfl) nzc (fun R hR => ?_); simp (disch := omega) [if_t, hn, s3, s7, s8, s9]; refine hR _ _ _ (by simp) ?_; clear hR R; refine Runs.cseq ?_; refine Runs.regO (.inl rfl) nzc (fun R hR => ?_); simp (disch := omega) [if_t, hn, s3, s7, s8, s9]; refine hR _ _ _ (by simp) ?_; clear hR R; refine Runs.condI fun d hd => ?_; simp (disch := omega) [if_t, hn, s3, s7, s8, s9] at hd; subst hd; refine cond_b (fun hc => ?_) (fun hc => ?_)
    ·first | (simp at hc; done) |
      (
      (try simp at hc); (try have hcx0 := inR_t.1 hc); (try have hcx1 := isV_t.1 hc); rw [hc, Bool.true_or] at hM; refine Runs.cseq ?_; refine Runs.regO (.inl rfl) nzc (fun R hR => ?_); simp (disch := omega) [if_t, hn, s3, s7, s8, s9]; refine hR _ _ _ (by simp) ?_; clear hR R; refine Runs.ret ?_; dsimp only [thenQ, blockQ]; refine ⟨by simp, by simp (disch := omega) [hE1] <;> omega, ?_⟩
      simp (disch := omega) [if_t, hn, s3, s7, s8, s9, resD, resL, resV] <;> (first | omega | (simp_all [cov]; done) | (simp_all [cov] <;> omega)))
    ·first | (simp at hc; done) |
      (
      (try simp at hc); (try have hcx0 := inR_t.1 hc); (try have hcx1 := isV_t.1 hc); rw [hc, Bool.false_or] at hM; refine Runs.skip ?_; refine Runs.regO (.inl rfl) nzc (fun R hR => ?_); simp (disch := omega) [if_t, hn, s3, s7, s8, s9]; refine hR _ _ _ (by simp) ?_; clear hR R; dsimp only [thenQ, blockQ]; refine ⟨k1 - 1, by omega, i + 1, ?_, ?_, ?_, ?_, ?_, ?_, ?_, ?_⟩
      ·omega
      ·simp (disch := omega) [hE1] <;> omega
      ·simp (disch := omega) [if_t, hn, s3, s7, s8, s9]
      ·simp (disch := omega) [if_t, hn, s3, s7, s8, s9]
      ·simp (disch := omega) [if_t, hn, s3, s7, s8, s9]
      ·simp (disch := omega) [if_t, hn, s3, s7, s8, s9]
      ·first | omega | assumption
      ·rw [hM]))
  ·first | (simp at hc; done) |
    (
    (try simp at hc); (try have hcx0 := inR_t.1 hc); (try have hcx1 := isV_t.1 hc); rw [List.drop_of_length_le (by omega)] at hM; refine Runs.exit ?_; refine Runs.cseq ?_; refine Runs.regO (.inl rfl) nzc (fun R hR => ?_); simp (disch := omega) [if_t, hn, s3, s7, s8, s9]; refine hR _ _ _ (by simp) ?_; clear hR R; refine Runs.ret ?_; dsimp only [thenQ, blockQ]; refine ⟨by simp, by simp (disch := omega) [hE1] <;> omega, ?_⟩
    simp (disch := omega) [if_t, hn, s3, s7, s8, s9, resD, resL, resV] <;> (first | omega | (simp_all [cov]; done) | (simp_all [cov] <;> omega)))
 ·skip
  refine ⟨0, ?_, ?_, ?_, ?_, ?_, ?_, ?_, ?_⟩
  ·omega
  ·simp
  ·simp (disch := omega) [if_t, hn]
  ·simp (disch := omega) [if_t, hn]
  ·simp (disch := omega) [if_t, hn]
  ·simp (disch := omega) [if_t, hn]
  ·first | omega | simp | rfl
  ·rfl

set_option maxHeartbeats 1000000 in
/-- spec.validFrontier -/
@[simp] theorem c_spec_validFrontier (f : List Tim) (n : Nat) (hn : n ≠ 0) (p0 : sizL f ≤ 1152921504606846976) : cfg.call 74 [cl f] n = some (bi (validF f), n, []) := by
 refine call_runs0 rfl Try.func74 rfl (by kernel_rfl) rfl (by simp (disch := omega) [low_agg, low_pt, low_fn]) ?_; have hl_f := len_siz f
 refine Runs.cseq ?_; refine Runs.regO (.inl rfl) nzc (fun R hR => ?_); simp (disch := omega) [if_t, hn]; refine hR _ _ _ (by simp) ?_; clear hR R; refine Runs.cseq ?_; refine Runs.cseq ?_; refine Runs.regO (.inl rfl) nzc (fun R hR => ?_); simp (disch := omega) [if_t, hn]; refine hR _ _ _ (by simp) ?_; clear hR R; refine Runs.cblock ?_; refine Runs.loop (fun k fr n' E => ∃ (i : Nat), n ≤ n' ∧ Go.Cv.Loc n E ∧ fr 0 = cl f ∧ fr 3 = ci (i : Int) ∧ i + k = f.length ∧ allF (okFr f) 0 f.length = allF (okFr f) i k) ?_ (k := f.length) ?_
 ·rintro k1 fr n1 E1 ⟨i, hn1, hE1, s0, s3, hk, hM⟩
  have hz1 : n1 ≠ 0 := by omega
  refine Runs.cseq ?_; refine Runs.cseq ?_; refine Runs.regO (.inl rfl) nzc (fun R hR => ?_); simp (disch := omega) [if_t, hn, s0, s3]; refine hR _ _ _ (by simp) ?_; clear hR R; refine Runs.condI fun d hd => ?_; simp (disch := omega) [if_t, hn, s0, s3] at hd; subst hd; refine cond_b (fun hc => ?_) (fun hc => ?_)
  ·first | (simp at hc; done) |
    (
    (try simp at hc); (try have hcx0 := inR_t.1 hc); (try have hcx1 := isV_t.1 hc); obtain ⟨k1, rfl⟩ : ∃ j, k1 = j + 1 := ⟨k1 - 1, by omega⟩
    rw [allF] at hM; refine Runs.skip ?_; refine Runs.cseq ?_; refine Runs.cblock ?_; refine Runs.cseq ?_; refine Runs.cseq ?_; refine Runs.regO (.inr (by kernel_rfl)) nzc (fun R hR => ?_); repeat' (first | (simp (disch := omega) [if_t, hn, s0, s3]) | (with_reducible refine RunsW.splitN (fun hb => ?_) (fun hb => ?_) <;> (try simp only [hb]) <;> (try simp at hb) <;> (try have hx0 := inR_t.1 hb) <;> (try have hx1 := isV_t.1 hb)) | (with_reducible refine RunsW.split (fun hb => ?_) (fun hb => ?_) <;> (try simp only [hb]) <;> (try simp at hb) <;> (try have hx0 := inR_t.1 hb) <;> (try have hx1 := isV_t.1 hb)))
    all_goals (
     refine hR _ _ _ (by simp) ?_; clear hR R; refine Runs.condI fun d hd => ?_; simp (disch := omega) [if_t, hn, s0, s3] at hd; subst hd; refine cond_b (fun hc => ?_) (fun hc => ?_)
     ·first | (simp at hc; done) |
       (
       (try simp at hc); (try have hcx0 := inR_t.1 hc); (try have hcx1 := isV_t.1 hc); have ho : okFr f i = false := by clear hM; simp_all [okFr] <;> omega
       have hM : allF (okFr f) 0 f.length = false := by rw [hM, ho]; rfl
       refine Runs.cseq ?_; refine Runs.regO (.inl rfl) nzc (fun R hR => ?_); simp (disch := omega) [if_t, hn, s0, s3]; refine hR _ _ _ (by simp) ?_; clear hR R; refine Runs.ret ?_; dsimp only [thenQ, blockQ]; refine ⟨by simp, by simp (disch := omega) [hE1] <;> omega, ?_⟩
       simp (disch := omega) [if_t, hn, s0, s3, resD, resL, resV] <;> (first | omega | (simp_all [validF]; done) | (simp_all [validF] <;> omega)))
     ·first | (simp at hc; done) |
       (
       (try simp at hc); (try have hcx0 := inR_t.1 hc); (try have hcx1 := isV_t.1 hc); have hpre : okFr f i = allF (fun k => !tle (ix f k) (ix f i)) 0 i := by clear hM; simp_all [okFr] <;> omega
       rw [hpre] at hM; refine Runs.skip ?_; refine Runs.cseq ?_; refine Runs.regO (.inl rfl) nzc (fun R hR => ?_); simp (disch := omega) [if_t, hn, s0, s3]; refine hR _ _ _ (by simp) ?_; clear hR R; refine Runs.cblock ?_; refine Runs.loop (fun k fr n' E => ∃ (q : Nat), n ≤ n' ∧ Go.Cv.Loc n E ∧ fr 0 = cl f ∧ fr 3 = ci (i : Int) ∧ fr 4 = ci (q : Int) ∧ q + k = i ∧ allF (fun k => !tle (ix f k) (ix f i)) 0 i = allF (fun k => !tle (ix f k) (ix f i)) q k) ?_ (k := i) ?_
       ·rintro k2 fr n2 E2 ⟨q, hn2, hE2, s0, s3, s4, hk2, hI⟩
        have hz2 : n2 ≠ 0 := by omega
        refine Runs.cseq ?_; refine Runs.cseq ?_; refine Runs.regO (.inl rfl) nzc (fun R hR => ?_); simp (disch := omega) [if_t, hn, s0, s3, s4]; refine hR _ _ _ (by simp) ?_; clear hR R; refine Runs.condI fun d hd => ?_; simp (disch := omega) [if_t, hn, s0, s3, s4] at hd; subst hd; refine cond_b (fun hc => ?_) (fun hc => ?_)
        ·first | (simp at hc; done) |
          (
          (try simp at hc); (try have hcx0 := inR_t.1 hc); (try have hcx1 := isV_t.1 hc); obtain ⟨k2, rfl⟩ : ∃ j, k2 = j + 1 := ⟨k2 - 1, by omega⟩
          rw [allF] at hI; refine Runs.skip ?_; refine Runs.cseq ?_; refine Runs.cblock ?_; refine Runs.cseq ?_; refine Runs.regO (.inr (by kernel_rfl)) nzc (fun R hR => ?_); simp (disch := omega) [if_t, hn, s0, s3, s4]; refine hR _ _ _ (by simp) ?_; clear hR R; refine Runs.condI fun d hd => ?_; simp (disch := omega) [if_t, hn, s0, s3, s4] at hd; subst hd; refine cond_b (fun hc => ?_) (fun hc => ?_)
          ·first | (simp at hc; done) |
            (
            (try simp at hc); (try have hcx0 := inR_t.1 hc); (try have hcx1 := isV_t.1 hc); rw [hc, Bool.not_true, Bool.false_and] at hI; rw [hI, Bool.false_and] at hM; refine Runs.cseq ?_; refine Runs.regO (.inl rfl) nzc (fun R hR => ?_); simp (disch := omega) [if_t, hn, s0, s3, s4]; refine hR _ _ _ (by simp) ?_; clear hR R; refine Runs.ret ?_; dsimp only [thenQ, blockQ]; refine ⟨by simp, by simp (disch := omega) [hE1, hE2] <;> omega, ?_⟩
            simp (disch := omega) [if_t, hn, s0, s3, s4, resD, resL, resV] <;> (first | omega | (simp_all [validF]; done) | (simp_all [validF] <;> omega)))
          ·first | (simp at hc; done) |
            (
            (try simp at hc); (try have hcx0 := inR_t.1 hc); (try have hcx1 := isV_t.1 hc); rw [hc, Bool.not_false, Bool.true_and] at hI; refine Runs.skip ?_; refine Runs.regO (.inl rfl) nzc (fun R hR => ?_); simp (disch := omega) [if_t, hn, s0, s3, s4]; refine hR _ _ _ (by simp) ?_; clear hR R; dsimp only [thenQ, blockQ]; refine ⟨k2, by omega, q + 1, ?_, ?_, ?_, ?_, ?_, ?_, ?_⟩
            ·omega
            ·simp (disch := omega) [hE1, hE2] <;> omega
            ·simp (disch := omega) [if_t, hn, s0, s3, s4]
            ·simp (disch := omega) [if_t, hn, s0, s3, s4]
            ·simp (disch := omega) [if_t, hn, s0, s3, s4]
            ·first | omega | assumption
            ·rw [hI]))
        ·first | (simp at hc; done) |
          (
          (try simp at hc); (try have hcx0 := inR_t.1 hc); (try have hcx1 := isV_t.1 hc); obtain rfl : k2 = 0 := by omega
          rw [allF] at hI; rw [hI, Bool.true_and] at hM; refine Runs.exit ?_; refine Runs.regO (.inl rfl) nzc (fun R hR => ?_); simp (disch := omega) [if_t, hn, s0, s3, s4]; refine hR _ _ _ (by simp) ?_; clear hR R; dsimp only [thenQ, blockQ]; refine ⟨k1, by omega, i + 1, ?_, ?_, ?_, ?_, ?_, ?_⟩
          ·omega
          ·simp (disch := omega) [hE1, hE2] <;> omega
          ·simp (disch := omega) [if_t, hn, s0, s3, s4]
          ·simp (disch := omega) [if_t, hn, s0, s3, s4]
          ·first | omega | assumption
          ·rw [hM])
       ·skip
        refine ⟨0, ?_, ?_, ?_, ?_, ?_, ?_, ?_⟩
        ·omega
        ·simp
        ·simp (disch := omega) [if_t, hn, s0, s3]
        ·simp (disch := omega) [if_t, hn, s0, s3]
        ·simp (disch := omega) [if_t, hn, s0, s3]
        ·first | omega | simp | rfl
        ·rfl)))
  ·first | (simp at hc; done) |
    (
    (try simp at hc); (try have hcx0 := inR_t.1 hc); (try have hcx1 := isV_t.1 hc); obtain rfl : k1 = 0 := by omega
    rw [allF] at hM; refine Runs.exit ?_; refine Runs.cseq ?_; refine Runs.regO (.inl rfl) nzc (fun R hR => ?_); simp (disch := omega) [if_t, hn, s0, s3]; refine hR _ _ _ (by simp) ?_; clear hR R; refine Runs.ret ?_; dsimp only [thenQ, blockQ]; refine ⟨by simp, by simp (disch := omega) [hE1] <;> omega, ?_⟩
    simp (disch := omega) [if_t, hn, s0, s3, resD, resL, resV] <;> (first | omega | (simp_all [validF]; done) | (simp_all [validF] <;> omega)))
 ·skip
  refine ⟨0, ?_, ?_, ?_, ?_, ?_, ?_⟩
  ·omega
  ·simp
  ·simp (disch := omega) [if_t, hn]
  ·simp (disch := omega) [if_t, hn]
  ·first | omega | simp | rfl
  ·rfl

set_option maxHeartbeats 1000000 in
/-- impl.ValidFrontier -/
@[simp] theorem c_impl_ValidFrontier (f : List Tim) (n : Nat) (hn : n ≠ 0) (p0 : sizL f ≤ 1152921504606846976) : cfg.call 80 [cl f] n = some (bi (validFI f), n, []) := by
 refine call_runs0 rfl Try.func80 rfl (by kernel_rfl) rfl (by simp (disch := omega) [low_agg, low_pt, low_fn]) ?_; have hl_f := len_siz f
 refine Runs.cseq ?_; refine Runs.regO (.inl rfl) nzc (fun R hR => ?_); simp (disch := omega) [if_t, hn]; refine hR _ _ _ (by simp) ?_; clear hR R; refine Runs.cseq ?_; refine Runs.cseq ?_; refine Runs.regO (.inl rfl) nzc (fun R hR => ?_); simp (disch := omega) [if_t, hn]; refine hR _ _ _ (by simp) ?_; clear hR R; refine Runs.cblock ?_; refine Runs.loop (fun k fr n' E => ∃ (i : Nat), n ≤ n' ∧ Go.Cv.Loc n E ∧ fr 0 = cl f ∧ fr 7 = cl f ∧ fr 8 = ci (f.length : Int) ∧ fr 9 = ci (i : Int) ∧ i + k = f.length ∧ allF (okFI f) 0 f.length = allF (okFI f) i k) ?_ (k := f.length) ?_
 ·rintro k1 fr n1 E1 ⟨i, hn1, hE1, s0, s7, s8, s9, hk, hM⟩
  have hz1 : n1 ≠ 0 := by omega
  refine Runs.cseq ?_; refine Runs.regO (.inl rfl) nzc (fun R hR => ?_); simp (disch := omega) [if_t, hn, s0, s7, s8, s9]; refine hR _ _ _ (by simp) ?_; clear hR R; refine Runs.cseq ?_; refine Runs.condI fun d hd => ?_; simp (disch := omega) [if_t, hn, s0, s7, s8, s9] at hd; subst hd; refine cond_b (fun hc => ?_) (fun hc => ?_)
  ·first | (simp at hc; done) |
    (
    (try simp at hc); (try have hcx0 := inR_t.1 hc); (try have hcx1 := isV_t.1 hc); obtain ⟨k1, rfl⟩ : ∃ j, k1 = j + 1 := ⟨k1 - 1, by omega⟩
    rw [allF] at hM; refine Runs.skip ?_; refine Runs.cseq ?_; refine Runs.cblock ?_; refine Runs.cseq ?_; refine Runs.regO (.inl rfl) nzc (fun R hR => ?_); simp (disch := omega) [if_t, hn, s0, s7, s8, s9]; refine hR _ _ _ (by simp) ?_; clear hR R; refine Runs.cseq ?_; refine Runs.cseq ?_; refine Runs.regO (.inr (by kernel_rfl)) nzc (fun R hR => ?_); repeat' (first | (simp (disch := omega) [if_t, hn, s0, s7, s8, s9]) | (with_reducible refine RunsW.splitN (fun hb => ?_) (fun hb => ?_) <;> (try simp only [hb]) <;> (try simp at hb) <;> (try have hx0 := inR_t.1 hb) <;> (try have hx1 := isV_t.1 hb)) | (with_reducible refine RunsW.split (fun hb => ?_) (fun hb => ?_) <;> (try simp only [hb]) <;> (try simp at hb) <;> (try have hx0 := inR_t.1 hb) <;> (try have hx1 := isV_t.1 hb)))
    all_goals (
     refine hR _ _ _ (by simp) ?_; clear hR R; refine Runs.condI fun d hd => ?_; simp (disch := omega) [if_t, hn, s0, s7, s8, s9] at hd; subst hd; refine cond_b (fun hc => ?_) (fun hc => ?_)
     ·first | (simp at hc; done) |
       (
       (try simp at hc); (try have hcx0 := inR_t.1 hc); (try have hcx1 := isV_t.1 hc); have ho : okFI f i = false := by clear hM; simp_all [okFI] <;> omega
       have hM : allF (okFI f) 0 f.length = false := by rw [hM, ho]; rfl
       refine Runs.cseq ?_; refine Runs.regO (.inl rfl) nzc (fun R hR => ?_); simp (disch := omega) [if_t, hn, s0, s7, s8, s9]; refine hR _ _ _ (by simp) ?_; clear hR R; refine Runs.ret ?_; dsimp only [thenQ, blockQ]; refine ⟨by simp, by simp (disch := omega) [hE1] <;> omega, ?_⟩
       simp (disch := omega) [if_t, hn, s0, s7, s8, s9, resD, resL, resV] <;> (first | omega | (simp_all [validFI]; done) | (simp_all [validFI] <;> omega)))
     ·first | (simp at hc; done) |
       (
       (try simp at hc); (try have hcx0 := inR_t.1 hc); (try have hcx1 := isV_t.1 hc); have hpre : okFI f i = allF (fun k => decide (k = i) || !tle (ix f k) (ix f i)) 0 f.length := by clear hM; simp_all [okFI] <;> omega
       rw [hpre] at hM; refine Runs.skip ?_; refine Runs.cseq ?_; refine Runs.regO (.inl rfl) nzc (fun R hR => ?_); simp (disch := omega) [if_t, hn, s0, s7, s8, s9]; refine hR _ _ _ (by simp) ?_; clear hR R; refine Runs.cblock ?_; refine Runs.loop (fun k fr n' E => ∃ (q : Nat), n1 + 1 ≤ n' ∧ Go.Cv.Loc n E ∧ fr 0 = cl f ∧ fr 3 = ci (i : Int) ∧ fr 4 = .pt n1 0 [ci (ix f i).e, ci (ix f i).r] ∧ fr 7 = cl f ∧ fr 8 = ci (f.length : Int) ∧ fr 9 = ci (i : Int) ∧ fr 31 = cl f ∧ fr 32 = ci (f.length : Int) ∧ fr 33 = ci (q : Int) ∧ q + k = f.length ∧ allF (fun k => decide (k = i) || !tle (ix f k) (ix f i)) 0 f.length = allF (fun k => decide (k = i) || !tle (ix f k) (ix f i)) q k) ?_ (k := f.length) ?_
       ·rintro k2 fr n2 E2 ⟨q, hn2, hE2, s0, s3, s4, s7, s8, s9, s31, s32, s33, hk2, hI⟩
        have hz2 : n2 ≠ 0 := by omega
        refine Runs.cseq ?_; refine Runs.regO (.inl rfl) nzc (fun R hR => ?_); simp (disch := omega) [if_t, hn, s0, s3, s4, s7, s8, s9, s31, s32, s33]; refine hR _ _ _ (by simp) ?_; clear hR R; refine Runs.cseq ?_; refine Runs.condI fun d hd => ?_; simp (disch := omega) [if_t, hn, s0, s3, s4, s7, s8, s9, s31, s32, s33] at hd; subst hd; refine cond_b (fun hc => ?_) (fun hc => ?_)
        ·first | (simp at hc; done) |
          (
          (try simp at hc); (try have hcx0 := inR_t.1 hc); (try have hcx1 := isV_t.1 hc); obtain ⟨k2, rfl⟩ : ∃ j, k2 = j + 1 := ⟨k2 - 1, by omega⟩
          rw [allF] at hI; refine Runs.skip ?_; refine Runs.cseq ?_; refine Runs.cblock ?_; refine Runs.cseq ?_; refine Runs.regO (.inl rfl) nzc (fun R hR => ?_); simp (disch := omega) [if_t, hn, s0, s3, s4, s7, s8, s9, s31, s32, s33]; refine hR _ _ _ (by simp) ?_; clear hR R; refine Runs.cseq ?_; refine Runs.regO (.inl rfl) nzc (fun R hR => ?_); repeat' (first | (simp (disch := omega) [if_t, hn, s0, s3, s4, s7, s8, s9, s31, s32, s33]) | (with_reducible refine RunsW.splitN (fun hb => ?_) (fun hb => ?_) <;> (try simp only [hb]) <;> (try simp at hb) <;> (try have hx0 := inR_t.1 hb) <;> (try have hx1 := isV_t.1 hb)) | (with_reducible refine RunsW.split (fun hb => ?_) (fun hb => ?_) <;> (try simp only [hb]) <;> (try simp at hb) <;> (try have hx0 := inR_t.1 hb) <;> (try have hx1 := isV_t.1 hb)))
          all_goals (
           refine hR _ _ _ (by simp) ?_; clear hR R; refine Runs.condI fun d hd => ?_; simp (disch := omega) [if_t, hn, s0, s3, s4, s7, s8, s9, s31, s32, s33] at hd; subst hd; refine cond_b (fun hc => ?_) (fun hc => ?_)
           ·first | (simp at hc; done) |
             (
             (try simp at hc); (try have hcx0 := inR_t.1 hc); (try have hcx1 := isV_t.1 hc); have hI : allF (fun k => decide (k = i) || !tle (ix f k) (ix f i)) 0 f.length = false := by rw [hI]; simp_all
             rw [hI, Bool.false_and] at hM; refine Runs.cseq ?_; refine Runs.regO (.inl rfl) nzc (fun R hR => ?_); simp (disch := omega) [if_t, hn, s0, s3, s4, s7, s8, s9, s31, s32, s33]; refine hR _ _ _ (by simp) ?_; clear hR R; refine Runs.ret ?_; dsimp only [thenQ, blockQ]; refine ⟨by simp, by simp (disch := omega) [hE1, hE2] <;> omega, ?_⟩
             simp (disch := omega) [if_t, hn, s0, s3, s4, s7, s8, s9, s31, s32, s33, resD, resL, resV] <;> (first | omega | (simp_all [validFI]; done) | (simp_all [validFI] <;> omega)))
           ·first | (simp at hc; done) |
             (
             (try simp at hc); (try have hcx0 := inR_t.1 hc); (try have hcx1 := isV_t.1 hc); have hI : allF (fun k => decide (k = i) || !tle (ix f k) (ix f i)) 0 f.length = allF (fun k => decide (k = i) || !tle (ix f k) (ix f i)) (q + 1) k2 := by rw [hI]; simp_all
             refine Runs.skip ?_; refine Runs.regO (.inl rfl) nzc (fun R hR => ?_); simp (disch := omega) [if_t, hn, s0, s3, s4, s7, s8, s9, s31, s32, s33]; refine hR _ _ _ (by simp) ?_; clear hR R; dsimp only [thenQ, blockQ]; refine ⟨k2, by omega, q + 1, ?_, ?_, ?_, ?_, ?_, ?_, ?_, ?_, ?_, ?_, ?_, ?_, ?_⟩
             ·omega
             ·simp (disch := omega) [hE1, hE2] <;> omega
             ·simp (disch := omega) [if_t, hn, s0, s3, s4, s7, s8, s9, s31, s32, s33]
             ·simp (disch := omega) [if_t, hn, s0, s3, s4, s7, s8, s9, s31, s32, s33]
             ·simp (disch := omega) [if_t, hn, s0, s3, s4, s7, s8, s9, s31, s32, s33]
             ·simp (disch := omega) [if_t, hn, s0, s3, s4, s7, s8, s9, s31, s32, s33]
             ·simp (disch := omega) [if_t, hn, s0, s3, s4, s7, s8, s9, s31, s32, s33]
             ·simp (disch := omega) [if_t, hn, s0, s3, s4, s7, s8, s9, s31, s32, s33]
             ·simp (disch := omega) [if_t, hn, s0, s3, s4, s7, s8, s9, s31, s32, s33]
             ·simp (disch := omega) [if_t, hn, s0, s3, s4, s7, s8, s9, s31, s32, s33]
             ·simp (disch := omega) [if_t, hn, s0, s3, s4, s7, s8, s9, s31, s32, s33]
             ·first | omega | assumption
             ·rw [hI])))
        ·first | (simp at hc; done) |
          (
          (try simp at hc); (try have hcx0 := inR_t.1 hc); (try have hcx1 := isV_t.1 hc); obtain rfl : k2 = 0 := by omega
          rw [allF] at hI; rw [hI, Bool.true_and] at hM; refine Runs.exit ?_; refine Runs.regO (.inl rfl) nzc (fun R hR => ?_); simp (disch := omega) [if_t, hn, s0, s3, s4, s7, s8, s9, s31, s32, s33]; refine hR _ _ _ (by simp) ?_; clear hR R; dsimp only [thenQ, blockQ]; refine ⟨k1, by omega, i + 1, ?_, ?_, ?_, ?_, ?_, ?_, ?_, ?_⟩
          ·omega
          ·simp (disch := omega) [hE1, hE2] <;> omega
          ·simp (disch := omega) [if_t, hn, s0, s3, s4, s7, s8, s9, s31, s32, s33]
          ·simp (disch := omega) [if_t, hn, s0, s3, s4, s7, s8, s9, s31, s32, s33]
          ·simp (disch := omega) [if_t, hn, s0, s3, s4, s7, s8, s9, s31, s32, s33]
          ·simp (disch := omega) [if_t, hn, s0, s3, s4, s7, s8, s9, s31, s32, s33]
          ·first | omega | assumption
          ·rw [hM])
       ·skip
        refine ⟨0, ?_, ?_, ?_, ?_, ?_, ?_, ?_, ?_, ?_, ?_, ?_, ?_, ?_⟩
        ·omega
        ·simp
        ·simp (disch := omega) [if_t, hn, s0, s7, s8, s9]
        ·simp (disch := omega) [if_t, hn, s0, s7, s8, s9]
        ·simp (disch := omega) [if_t, hn, s0, s7, s8, s9]
        ·simp (disch := omega) [if_t, hn, s0, s7, s8, s9]
        ·simp (disch := omega) [if_t, hn, s0, s7, s8, s9]
        ·simp (disch := omega) [if_t, hn, s0, s7, s8, s9]
        ·simp (disch := omega) [if_t, hn, s0, s7, s8, s9]
        ·simp (disch := omega) [if_t, hn, s0, s7, s8, s9]
        ·simp (disch := omega) [if_t, hn, s0, s7, s8, s9]
        ·first | omega | simp | rfl
        ·rfl)))
  ·first | (simp at hc; done) |
    (
    (try simp at hc); (try have hcx0 := inR_t.1 hc); (try have hcx1 := isV_t.1 hc); obtain rfl : k1 = 0 := by omega
    rw [allF] at hM; refine Runs.exit ?_; refine Runs.cseq ?_; refine Runs.regO (.inl rfl) nzc (fun R hR => ?_); simp (disch := omega) [if_t, hn, s0, s7, s8, s9]; refine hR _ _ _ (by simp) ?_; clear hR R; refine Runs.ret ?_; dsimp only [thenQ, blockQ]; refine ⟨by simp, by simp (disch := omega) [hE1] <;> omega, ?_⟩
    simp (disch := omega) [if_t, hn, s0, s7, s8, s9, resD, resL, resV] <;> (first | omega | (simp_all [validFI]; done) | (simp_all [validFI] <;> omega)))
 ·skip
  refine ⟨0, ?_, ?_, ?_, ?_, ?_, ?_, ?_, ?_⟩
  ·omega
  ·simp
  ·simp (disch := omega) [if_t, hn]
  ·simp (disch := omega) [if_t, hn]
  ·simp (disch := omega) [if_t, hn]
  ·simp (disch := omega) [if_t, hn]
  ·first | omega | simp | rfl
  ·rfl

def covAll (f : List Tim) : List Tim → Bool
  | [] => true
  | t :: ts => cov f t && covAll f ts

set_option maxHeartbeats 1000000 in
/-- spec.frontierLessEqual -/
@[simp] theorem c_spec_frontierLessEqual (f g : List Tim) (n : Nat) (hn : n ≠ 0) (p0 : sizL f ≤ 1152921504606846976) (p1 : sizL g ≤ 1152921504606846976) : cfg.call 75 [cl f, cl g] n = some (bi (covAll f g), n, []) := by
 refine call_runs0 rfl Try.func75 rfl (by kernel_rfl) rfl (by simp (disch := omega) [low_agg, low_pt, low_fn]) ?_; have hl_f := len_siz f
 have hl_g := len_siz g
 refine Runs.cseq ?_; refine Runs.regO (.inl rfl) nzc (fun R hR => ?_); simp (disch := omega) [if_t, hn]; refine hR _ _ _ (by simp) ?_; clear hR R; refine Runs.cseq ?_; refine Runs.cseq ?_; refine Runs.regO (.inl rfl) nzc (fun R hR => ?_); simp (disch := omega) [if_t, hn]; refine hR _ _ _ (by simp) ?_; clear hR R; refine Runs.cblock ?_; refine Runs.loop (fun k fr n' E => ∃ (i : Nat), n ≤ n' ∧ Go.Cv.Loc n E ∧ fr 0 = cl f ∧ fr 1 = cl g ∧ fr 5 = ci (i : Int) ∧ i + k = g.length ∧ covAll f g = covAll f (g.drop i)) ?_ (k := g.length) ?_
 ·rintro k1 fr n1 E1 ⟨i, hn1, hE1, s0, s1, s5, hk, hM⟩
  have hz1 : n1 ≠ 0 := by omega
  refine Runs.cseq ?_; refine Runs.cseq ?_; refine Runs.regO (.inl rfl) nzc (fun R hR => ?_); simp (disch := omega) [if_t, hn, s0, s1, s5]; refine hR _ _ _ (by simp) ?_; clear hR R; refine Runs.condI fun d hd => ?_; simp (disch := omega) [if_t, hn, s0, s1, s5] at hd; subst hd; refine cond_b (fun hc => ?_) (fun hc => ?_)
  ·first | (simp at hc; done) |
    (
    (try simp at hc); (try have hcx0 := inR_t.1 hc); (try have hcx1 := isV_t.1 hc); rw [drop_ix hc] at hM; rw [covAll] at hM; refine Runs.skip ?_; refine Runs.cseq ?_; refine Runs.cblock ?_; refine Runs.cseq ?_; refine Runs.regO (.inl rfl) nzc (fun R hR => ?_); simp (disch := omega) [if_t, hn, s0, s1, s5]; refine hR _ _ _ (by simp) ?_; clear hR R; refine Runs.condI fun d hd => ?_; simp (disch := omega) [if_t, hn, s0, s1, s5] at hd; subst hd; refine cond_b (fun hc => ?_) (fun hc => ?_)
    ·first | (simp at hc; done) |
      (
      (try simp at hc); (try have hcx0 := inR_t.1 hc); (try have hcx1 := isV_t.1 hc); rw [hc, Bool.false_and] at hM; refine Runs.cseq ?_; refine Runs.regO (.inl rfl) nzc (fun R hR => ?_); simp (disch := omega) [if_t, hn, s0, s1, s5]; refine hR _ _ _ (by simp) ?_; clear hR R; refine Runs.ret ?_; dsimp only [thenQ, blockQ]; refine ⟨by simp, by simp (disch := omega) [hE1] <;> omega, ?_⟩
      simp (disch := omega) [if_t, hn, s0, s1, s5, resD, resL, resV] <;> (first | omega | (simp_all [covAll]; done) | (simp_all [covAll] <;> omega)))
    ·first | (simp at hc; done) |
      (
      (try simp at hc); (try have hcx0 := inR_t.1 hc); (try have hcx1 := isV_t.1 hc); rw [hc, Bool.true_and] at hM; refine Runs.skip ?_; refine Runs.regO (.inl rfl) nzc (fun R hR => ?_); simp (disch := omega) [if_t, hn, s0, s1, s5]; refine hR _ _ _ (by simp) ?_; clear hR R; dsimp only [thenQ, blockQ]; refine ⟨k1 - 1, by omega, i + 1, ?_, ?_, ?_, ?_, ?_, ?_, ?_⟩
      ·omega
      ·simp (disch := omega) [hE1] <;> omega
      ·simp (disch := omega) [if_t, hn, s0, s1, s5]
      ·simp (disch := omega) [if_t, hn, s0, s1, s5]
      ·simp (disch := omega) [if_t, hn, s0, s1, s5]
      ·first | omega | assumption
      ·rw [hM]))
  ·first | (simp at hc; done) |
    (
    (try simp at hc); (try have hcx0 := inR_t.1 hc); (try have hcx1 := isV_t.1 hc); rw [List.drop_of_length_le (by omega)] at hM; refine Runs.exit ?_; refine Runs.cseq ?_; refine Runs.regO (.inl rfl) nzc (fun R hR => ?_); simp (disch := omega) [if_t, hn, s0, s1, s5]; refine hR _ _ _ (by simp) ?_; clear hR R; refine Runs.ret ?_; dsimp only [thenQ, blockQ]; refine ⟨by simp, by simp (disch := omega) [hE1] <;> omega, ?_⟩
    simp (disch := omega) [if_t, hn, s0, s1, s5, resD, resL, resV] <;> (first | omega | (simp_all [covAll]; done) | (simp_all [covAll] <;> omega)))
 ·skip
  refine ⟨0, ?_, ?_, ?_, ?_, ?_, ?_, ?_⟩
  ·omega
  ·simp
  ·simp (disch := omega) [if_t, hn]
  ·simp (disch := omega) [if_t, hn]
  ·simp (disch := omega) [if_t, hn]
  ·first | omega | simp | rfl
  ·rfl

def fle (f g : List Tim) : Bool := validF f && (validF g && covAll f g)

set_option maxHeartbeats 1000000 in
/-- impl.FrontierLessEqual -/
@[simp] theorem c_impl_FrontierLessEqual (f g : List Tim) (n : Nat) (hn : n ≠ 0) (p0 : sizL f ≤ 1152921504606846976) (p1 : sizL g ≤ 1152921504606846976) : cfg.call 61 [cl f, cl g] n = some (bi (fle f g), n, []) := by
 refine call_runs0 rfl Try.func61 rfl (by kernel_rfl) rfl (by simp (disch := omega) [low_agg, low_pt, low_fn]) ?_; have hl_f := len_siz f
 have hl_g := len_siz g
 refine Runs.cseq ?_; refine Runs.regO (.inl rfl) nzc (fun R hR => ?_); simp (disch := omega) [if_t, hn, validFI_eq]; refine hR _ _ _ (by simp) ?_; clear hR R; refine Runs.cseq ?_; refine Runs.cseq ?_; refine Runs.regO (.inl rfl) nzc (fun R hR => ?_); repeat' (first | (simp (disch := omega) [if_t, hn, validFI_eq]) | (with_reducible refine RunsW.splitN (fun hb => ?_) (fun hb => ?_) <;> (try simp only [hb]) <;> (try simp at hb) <;> (try have hx0 := inR_t.1 hb) <;> (try have hx1 := isV_t.1 hb)) | (with_reducible refine RunsW.split (fun hb => ?_) (fun hb => ?_) <;> (try simp only [hb]) <;> (try simp at hb) <;> (try have hx0 := inR_t.1 hb) <;> (try have hx1 := isV_t.1 hb)))
 all_goals (
  refine hR _ _ _ (by simp) ?_; clear hR R; refine Runs.condI fun d hd => ?_; simp (disch := omega) [if_t, hn, validFI_eq] at hd; subst hd; refine cond_b (fun hc => ?_) (fun hc => ?_)
  ·first | (simp at hc; done) |
    (
    (try simp at hc); (try have hcx0 := inR_t.1 hc); (try have hcx1 := isV_t.1 hc); refine Runs.cseq ?_; refine Runs.regO (.inl rfl) nzc (fun R hR => ?_); simp (disch := omega) [if_t, hn, validFI_eq]; refine hR _ _ _ (by simp) ?_; clear hR R; refine Runs.ret ?_; dsimp only [thenQ, blockQ]; refine ⟨by simp, by simp (disch := omega) <;> omega, ?_⟩
    simp (disch := omega) [if_t, hn, validFI_eq, resD, resL, resV] <;> (first | omega | (simp_all [fle, covAll]; done) | (simp_all [fle, covAll] <;> omega)))
  ·first | (simp at hc; done) |
    (
    (try simp at hc); (try have hcx0 := inR_t.1 hc); (try have hcx1 := isV_t.1 hc); refine Runs.skip ?_; refine Runs.cseq ?_; refine Runs.cseq ?_; refine Runs.regO (.inl rfl) nzc (fun R hR => ?_); simp (disch := omega) [if_t, hn, validFI_eq]; refine hR _ _ _ (by simp) ?_; clear hR R; refine Runs.cblock ?_; refine Runs.loop (fun k fr n' E => ∃ (i : Nat), n ≤ n' ∧ Go.Cv.Loc n E ∧ fr 0 = cl f ∧ fr 15 = cl g ∧ fr 16 = ci (g.length : Int) ∧ fr 17 = ci (i : Int) ∧ i + k = g.length ∧ covAll f g = covAll f (g.drop i)) ?_ (k := g.length) ?_
    ·rintro k1 fr n1 E1 ⟨i, hn1, hE1, s0, s15, s16, s17, hk, hM⟩
     have hz1 : n1 ≠ 0 := by omega
     refine Runs.cseq ?_; refine Runs.regO (.inl rfl) nzc (fun R hR => ?_); simp (disch := omega) [if_t, hn, s0, s15, s16, s17, validFI_eq]; refine hR _ _ _ (by simp) ?_; clear hR R; refine Runs.cseq ?_; refine Runs.condI fun d hd => ?_; simp (disch := omega) [if_t, hn, s0, s15, s16, s17, validFI_eq] at hd; subst hd; refine cond_b (fun hc => ?_) (fun hc => ?_)
     ·first | (simp at hc; done) |
       (
       (try simp at hc); (try have hcx0 := inR_t.1 hc); (try have hcx1 := isV_t.1 hc); rw [drop_ix hc] at hM; rw [covAll] at hM; refine Runs.skip ?_; refine Runs.cseq ?_; refine Runs.cblock ?_; refine Runs.cseq ?_; refine Runs.regO (.inl rfl) nzc (fun R hR => ?_); simp (disch := omega) [if_t, hn, s0, s15, s16, s17, validFI_eq]; refine hR _ _ _ (by simp) ?_; clear hR R; refine Runs.cseq ?_; refine Runs.regO (.inl rfl) nzc (fun R hR => ?_); simp (disch := omega) [if_t, hn, s0, s15, s16, s17, validFI_eq]; refine hR _ _ _ (by simp) ?_; clear hR R; refine Runs.condI fun d hd => ?_; simp (disch := omega) [if_t, hn, s0, s15, s16, s17, validFI_eq] at hd; subst hd; refine cond_b (fun hc => ?_) (fun hc => ?_)
       ·first | (simp at hc; done) |
         (
         (try simp at hc); (try have hcx0 := inR_t.1 hc); (try have hcx1 := isV_t.1 hc); rw [hc, Bool.false_and] at hM; refine Runs.cseq ?_; refine Runs.regO (.inl rfl) nzc (fun R hR => ?_); simp (disch := omega) [if_t, hn, s0, s15, s16, s17, validFI_eq]; refine hR _ _ _ (by simp) ?_; clear hR R; refine Runs.ret ?_; dsimp only [thenQ, blockQ]; refine ⟨by simp, by simp (disch := omega) [hE1] <;> omega, ?_⟩
         simp (disch := omega) [if_t, hn, s0, s15, s16, s17, validFI_eq, resD, resL, resV] <;> (first | omega | (simp_all [fle, covAll]; done) | (simp_all [fle, covAll] <;> omega)))
       ·first | (simp at hc; done) |
         (
         (try simp at hc); (try have hcx0 := inR_t.1 hc); (try have hcx1 := isV_t.1 hc); rw [hc, Bool.true_and] at hM; refine Runs.skip ?_; refine Runs.regO (.inl rfl) nzc (fun R hR => ?_); simp (disch := omega) [if_t, hn, s0, s15, s16, s17, validFI_eq]; refine hR _ _ _ (by simp) ?_; clear hR R; dsimp only [thenQ, blockQ]; refine ⟨k1 - 1, by omega, i + 1, ?_, ?_, ?_, ?_, ?_, ?_, ?_, ?_⟩
         ·omega
         ·simp (disch := omega) [hE1] <;> omega
         ·simp (disch := omega) [if_t, hn, s0, s15, s16, s17, validFI_eq]
         ·simp (disch := omega) [if_t, hn, s0, s15, s16, s17, validFI_eq]
         ·simp (disch := omega) [if_t, hn, s0, s15, s16, s17, validFI_eq]
         ·simp (disch := omega) [if_t, hn, s0, s15, s16, s17, validFI_eq]
         ·first | omega | assumption
         ·rw [hM]))
     ·first | (simp at hc; done) |
       (
       (try simp at hc); (try have hcx0 := inR_t.1 hc); (try have hcx1 := isV_t.1 hc); rw [List.drop_of_length_le (by omega)] at hM; refine Runs.exit ?_; refine Runs.cseq ?_; refine Runs.regO (.inl rfl) nzc (fun R hR => ?_); simp (disch := omega) [if_t, hn, s0, s15, s16, s17, validFI_eq]; refine hR _ _ _ (by simp) ?_; clear hR R; refine Runs.ret ?_; dsimp only [thenQ, blockQ]; refine ⟨by simp, by simp (disch := omega) [hE1] <;> omega, ?_⟩
       simp (disch := omega) [if_t, hn, s0, s15, s16, s17, validFI_eq, resD, resL, resV] <;> (first | omega | (simp_all [fle, covAll]; done) | (simp_all [fle, covAll] <;> omega)))
    ·skip
     refine ⟨0, ?_, ?_, ?_, ?_, ?_, ?_, ?_, ?_⟩
     ·omega
     ·simp
     ·simp (disch := omega) [if_t, hn, validFI_eq]
     ·simp (disch := omega) [if_t, hn, validFI_eq]
     ·simp (disch := omega) [if_t, hn, validFI_eq]
     ·simp (disch := omega) [if_t, hn, validFI_eq]
     ·first | omega | simp | rfl
     ·rfl))

def cmpU (a b : Upd) : Int := if cmpL a.row b.row = 0 then cmpT a.t b.t else cmpL a.row b.row
def updLess (a b : Upd) : Bool := rowLess a.row b.row || (decide (a.row = b.row) && tbf a.t b.t)
theorem cmpL_zero : ∀ xs ys : List Int, cmpL xs ys = 0 ↔ xs = ys
  | [], [] => by simp [cmpL]
  | [], y :: ys => by simp [cmpL]
  | x :: xs, [] => by simp [cmpL]
  | x :: xs, y :: ys => by
    rw [cmpL]
    by_cases h : x = y
    · subst h
      have h0 : cmpI x x = 0 := by simp [cmpI]
      rw [if_pos h0, cmpL_zero xs ys]; simp
    · have h0 : cmpI x y ≠ 0 := by unfold cmpI; split; decide; split; decide; omega
      rw [if_neg h0]; simp [h0, h]
theorem cmpT_neg (a b : Tim) : decide (cmpT a b < 0) = tbf a b := by
  unfold cmpT
  cases h : tbf a b
  · cases h2 : tbf b a <;> simp
  · simp
theorem cmpU_neg (a b : Upd) : decide (cmpU a b < 0) = updLess a b := by
  unfold cmpU updLess
  by_cases h : cmpL a.row b.row = 0
  · have h1 := (cmpL_zero _ _).1 h
    have h2 := cmpL_lt a.row b.row
    rw [h] at h2
    simp only [Int.lt_irrefl, decide_false] at h2
    rw [if_pos h, cmpT_neg, ← h2]; simp [h1]
  · have h1 : ¬ a.row = b.row := fun e => h ((cmpL_zero _ _).2 e)
    rw [if_neg h, cmpL_lt]; simp [h1]
theorem cmpU_ge (a b : Upd) : decide (0 ≤ cmpU a b) = !updLess a b := by
  rw [← cmpU_neg]
  by_cases h : cmpU a b < 0
  · simp [h]
  · simp only [h, decide_false, Bool.not_false]; simp; omega
theorem cmpU_ge' (a b : Upd) : 0 ≤ cmpU a b ↔ updLess a b = false := by
  have := cmpU_ge a b
  cases h : updLess a b <;> simp_all
def okUpd (tr : List Upd) (i : Nat) : Bool :=
  validRow (ix tr i).row && (decide ((ix tr i).row.length = (ix tr 0).row.length) && (validT (ix tr i).t && (!decide ((ix tr i).w = 0) && (inR (ix tr i).w (-1000000) 1000000 && (decide (i = 0) || updLess (ix tr (i - 1)) (ix tr i))))))
def validTr (tr : List Upd) : Bool := allF (okUpd tr) 0 tr.length && decide (tr.length ≤ 400)

set_option maxHeartbeats 1000000 in
/-- impl.compareUpdates -/
@[simp] theorem c_impl_compareUpdates (a b : Upd) (n : Nat) (hn : n ≠ 0) (p0 : sizL a.row ≤ 1152921504606846976) : cfg.call 83 [.agg [cl a.row, ci a.t.e, ci a.t.r, ci a.w], .agg [cl b.row, ci b.t.e, ci b.t.r, ci b.w]] n = some (ci (cmpU a b), n, []) := by
 refine call_runs0 rfl Try.func83 rfl (by kernel_rfl) rfl (by simp (disch := omega) [low_agg, low_pt, low_fn]) ?_; refine Runs.cseq ?_; refine Runs.regO (.inl rfl) nzc (fun R hR => ?_); simp (disch := omega) [if_t, hn]; refine hR _ _ _ (by simp) ?_; clear hR R; refine Runs.cseq ?_; refine Runs.cseq ?_; refine Runs.regO (.inl rfl) nzc (fun R hR => ?_); simp (disch := omega) [if_t, hn]; refine hR _ _ _ (by simp) ?_; clear hR R; refine Runs.cseq ?_; refine Runs.regO (.inl rfl) nzc (fun R hR => ?_); simp (disch := omega) [if_t, hn]; refine hR _ _ _ (by simp) ?_; clear hR R; refine Runs.condI fun d hd => ?_; simp (disch := omega) [if_t, hn] at hd; subst hd; refine cond_b (fun hc => ?_) (fun hc => ?_)
 ·first | (simp at hc; done) |
   (
   (try simp at hc); (try have hcx0 := inR_t.1 hc); (try have hcx1 := isV_t.1 hc); refine Runs.cseq ?_; refine Runs.regO (.inl rfl) nzc (fun R hR => ?_); simp (disch := omega) [if_t, hn]; refine hR _ _ _ (by simp) ?_; clear hR R; refine Runs.ret ?_; dsimp only [thenQ, blockQ]; refine ⟨by simp, by simp (disch := omega) <;> omega, ?_⟩
   simp (disch := omega) [if_t, hn, resD, resL, resV] <;> (first | omega | (simp_all [cmpU]; done) | (simp_all [cmpU] <;> omega)))
 ·first | (simp at hc; done) |
   (
   (try simp at hc); (try have hcx0 := inR_t.1 hc); (try have hcx1 := isV_t.1 hc); refine Runs.skip ?_; refine Runs.cseq ?_; refine Runs.regO (.inl rfl) nzc (fun R hR => ?_); simp (disch := omega) [if_t, hn]; refine hR _ _ _ (by simp) ?_; clear hR R; refine Runs.ret ?_; dsimp only [thenQ, blockQ]; refine ⟨by simp, by simp (disch := omega) <;> omega, ?_⟩
   simp (disch := omega) [if_t, hn, resD, resL, resV] <;> (first | omega | (simp_all [cmpU]; done) | (simp_all [cmpU] <;> omega)))

set_option maxHeartbeats 1000000 in
/-- spec.updateLess -/
@[simp] theorem c_spec_updateLess (a b : Upd) (n : Nat) (hn : n ≠ 0) (p0 : sizL a.row ≤ 1152921504606846976) : cfg.call 95 [.agg [cl a.row, ci a.t.e, ci a.t.r, ci a.w], .agg [cl b.row, ci b.t.e, ci b.t.r, ci b.w]] n = some (bi (updLess a b), n, []) := by
 refine call_runs0 rfl Try.func95 rfl (by kernel_rfl) rfl (by simp (disch := omega) [low_agg, low_pt, low_fn]) ?_; refine Runs.cseq ?_; refine Runs.regO (.inl rfl) nzc (fun R hR => ?_); simp (disch := omega) [if_t, hn]; refine hR _ _ _ (by simp) ?_; clear hR R; refine Runs.cseq ?_; refine Runs.regO (.inl rfl) nzc (fun R hR => ?_); repeat' (first | (simp (disch := omega) [if_t, hn]) | (with_reducible refine RunsW.splitN (fun hb => ?_) (fun hb => ?_) <;> (try simp only [hb]) <;> (try simp at hb) <;> (try have hx0 := inR_t.1 hb) <;> (try have hx1 := isV_t.1 hb)) | (with_reducible refine RunsW.split (fun hb => ?_) (fun hb => ?_) <;> (try simp only [hb]) <;> (try simp at hb) <;> (try have hx0 := inR_t.1 hb) <;> (try have hx1 := isV_t.1 hb)))
 all_goals (
  refine hR _ _ _ (by simp) ?_; clear hR R; refine Runs.ret ?_; dsimp only [thenQ, blockQ]; refine ⟨by simp, by simp (disch := omega) <;> omega, ?_⟩
  simp (disch := omega) [if_t, hn, resD, resL, resV] <;> (first | omega | (simp_all [updLess]; done) | (simp_all [updLess] <;> omega)))

def validU (u : Upd) : Bool := validRow u.row && (validT u.t && inR u.w (-1000000) 1000000)

set_option maxHeartbeats 1000000 in
/-- spec.validUpdate -/
@[simp] theorem c_spec_validUpdate (u : Upd) (n : Nat) (hn : n ≠ 0) (p0 : sizL u.row ≤ 1152921504606846976) : cfg.call 94 [.agg [cl u.row, ci u.t.e, ci u.t.r, ci u.w]] n = some (bi (validU u), n, []) := by
 refine call_runs0 rfl Try.func94 rfl (by kernel_rfl) rfl (by simp (disch := omega) [low_agg, low_pt, low_fn]) ?_; refine Runs.cseq ?_; refine Runs.regO (.inl rfl) nzc (fun R hR => ?_); simp (disch := omega) [if_t, hn]; refine hR _ _ _ (by simp) ?_; clear hR R; refine Runs.cseq ?_; refine Runs.regO (.inl rfl) nzc (fun R hR => ?_); repeat' (first | (simp (disch := omega) [if_t, hn]) | (with_reducible refine RunsW.splitN (fun hb => ?_) (fun hb => ?_) <;> (try simp only [hb]) <;> (try simp at hb) <;> (try have hx0 := inR_t.1 hb) <;> (try have hx1 := isV_t.1 hb)) | (with_reducible refine RunsW.split (fun hb => ?_) (fun hb => ?_) <;> (try simp only [hb]) <;> (try simp at hb) <;> (try have hx0 := inR_t.1 hb) <;> (try have hx1 := isV_t.1 hb)))
 all_goals (
  refine hR _ _ _ (by simp) ?_; clear hR R; refine Runs.ret ?_; dsimp only [thenQ, blockQ]; refine ⟨by simp, by simp (disch := omega) <;> omega, ?_⟩
  simp (disch := omega) [if_t, hn, resD, resL, resV] <;> (first | omega | (simp_all [validU]; done) | (simp_all [validU] <;> omega)))

theorem okUpd_s (tr : List Upd) (i : Nat) : okUpd tr i = (validU (ix tr i) && (decide ((ix tr i).row.length = (ix tr 0).row.length) && (!decide ((ix tr i).w = 0) && (decide (i = 0) || updLess (ix tr (i - 1)) (ix tr i))))) := by
  unfold okUpd validU
  generalize validRow _ = a
  generalize decide ((ix tr i).row.length = _) = b
  generalize validT _ = c
  generalize inR _ _ _ = d
  cases a <;> cases b <;> cases c <;> cases d <;> simp

set_option maxHeartbeats 1000000 in
/-- spec.validTrace -/
@[simp] theorem c_spec_validTrace (tr : List Upd) (n : Nat) (hn : n ≠ 0) (p0 : sizL tr ≤ 1152921504606846976) : cfg.call 76 [cl tr] n = some (bi (validTr tr), n, []) := by
 refine call_runs0 rfl Try.func76 rfl (by kernel_rfl) rfl (by simp (disch := omega) [low_agg, low_pt, low_fn]) ?_; have hl_tr := len_siz tr
 refine Runs.cseq ?_; refine Runs.regO (.inl rfl) nzc (fun R hR => ?_); simp (disch := omega) [if_t, hn, cmpU_ge, cmpU_ge']; refine hR _ _ _ (by simp) ?_; clear hR R; refine Runs.cseq ?_; refine Runs.cseq ?_; refine Runs.regO (.inl rfl) nzc (fun R hR => ?_); simp (disch := omega) [if_t, hn, cmpU_ge, cmpU_ge']; refine hR _ _ _ (by simp) ?_; clear hR R; refine Runs.cblock ?_; refine Runs.loop (fun k fr n' E => ∃ (i : Nat), n ≤ n' ∧ Go.Cv.Loc n E ∧ fr 0 = cl tr ∧ fr 3 = ci (i : Int) ∧ i + k = tr.length ∧ allF (okUpd tr) 0 tr.length = allF (okUpd tr) i k) ?_ (k := tr.length) ?_
 ·rintro k1 fr n1 E1 ⟨i, hn1, hE1, s0, s3, hk, hM⟩
  have hz1 : n1 ≠ 0 := by omega
  refine Runs.cseq ?_; refine Runs.cseq ?_; refine Runs.regO (.inl rfl) nzc (fun R hR => ?_); simp (disch := omega) [if_t, hn, s0, s3, cmpU_ge, cmpU_ge']; refine hR _ _ _ (by simp) ?_; clear hR R; refine Runs.condI fun d hd => ?_; simp (disch := omega) [if_t, hn, s0, s3, cmpU_ge, cmpU_ge'] at hd; subst hd; refine cond_b (fun hc => ?_) (fun hc => ?_)
  ·first | (simp at hc; done) |
    (
    (try simp at hc); (try have hcx0 := inR_t.1 hc); (try have hcx1 := isV_t.1 hc); have hsz := siz_ix hc
    simp at hsz; have hs0 := siz_ix (xs := tr) (i := 0) (by omega)
    simp at hs0; have hs1 := siz_ix (xs := tr) (i := i - 1) (by omega)
    simp at hs1; obtain ⟨k1, rfl⟩ : ∃ j, k1 = j + 1 := ⟨k1 - 1, by omega⟩
    rw [allF] at hM; refine Runs.skip ?_; refine Runs.cseq ?_; refine Runs.cblock ?_; refine Runs.cseq ?_; refine Runs.regO (.inr (by kernel_rfl)) nzc (fun R hR => ?_); repeat' (first | (simp (disch := omega) [if_t, hn, s0, s3, cmpU_ge, cmpU_ge']) | (with_reducible refine RunsW.splitN (fun hb => ?_) (fun hb => ?_) <;> (try simp only [hb]) <;> (try simp at hb) <;> (try have hx0 := inR_t.1 hb) <;> (try have hx1 := isV_t.1 hb)) | (with_reducible refine RunsW.split (fun hb => ?_) (fun hb => ?_) <;> (try simp only [hb]) <;> (try simp at hb) <;> (try have hx0 := inR_t.1 hb) <;> (try have hx1 := isV_t.1 hb)))
    all_goals (
     refine hR _ _ _ (by simp) ?_; clear hR R; refine Runs.condI fun d hd => ?_; simp (disch := omega) [if_t, hn, s0, s3, cmpU_ge, cmpU_ge'] at hd; subst hd; refine cond_b (fun hc => ?_) (fun hc => ?_)
     ·first | (simp at hc; done) |
       (
       (try simp at hc); (try have hcx0 := inR_t.1 hc); (try have hcx1 := isV_t.1 hc); have ho : okUpd tr i = false := by clear hM; rw [okUpd_s]; simp_all <;> omega
       have hM : allF (okUpd tr) 0 tr.length = false := by rw [hM, ho]; rfl
       refine Runs.cseq ?_; refine Runs.regO (.inl rfl) nzc (fun R hR => ?_); simp (disch := omega) [if_t, hn, s0, s3, cmpU_ge, cmpU_ge']; refine hR _ _ _ (by simp) ?_; clear hR R; refine Runs.ret ?_; dsimp only [thenQ, blockQ]; refine ⟨by simp, by simp (disch := omega) [hE1] <;> omega, ?_⟩
       simp (disch := omega) [if_t, hn, s0, s3, cmpU_ge, cmpU_ge', resD, resL, resV] <;> (first | omega | (simp_all [validTr]; done) | (simp_all [validTr] <;> omega)))
     ·first | (simp at hc; done) |
       (
       (try simp at hc); (try have hcx0 := inR_t.1 hc); (try have hcx1 := isV_t.1 hc); have ho : okUpd tr i = true := by clear hM; rw [okUpd_s]; simp_all <;> omega
       rw [ho, Bool.true_and] at hM; refine Runs.skip ?_; refine Runs.regO (.inl rfl) nzc (fun R hR => ?_); simp (disch := omega) [if_t, hn, s0, s3, cmpU_ge, cmpU_ge']; refine hR _ _ _ (by simp) ?_; clear hR R; dsimp only [thenQ, blockQ]; refine ⟨k1, by omega, i + 1, ?_, ?_, ?_, ?_, ?_, ?_⟩
       ·omega
       ·simp (disch := omega) [hE1] <;> omega
       ·simp (disch := omega) [if_t, hn, s0, s3, cmpU_ge, cmpU_ge']
       ·simp (disch := omega) [if_t, hn, s0, s3, cmpU_ge, cmpU_ge']
       ·first | omega | assumption
       ·rw [hM])))
  ·first | (simp at hc; done) |
    (
    (try simp at hc); (try have hcx0 := inR_t.1 hc); (try have hcx1 := isV_t.1 hc); obtain rfl : k1 = 0 := by omega
    rw [allF] at hM; refine Runs.exit ?_; refine Runs.cseq ?_; refine Runs.regO (.inl rfl) nzc (fun R hR => ?_); simp (disch := omega) [if_t, hn, s0, s3, cmpU_ge, cmpU_ge']; refine hR _ _ _ (by simp) ?_; clear hR R; refine Runs.ret ?_; dsimp only [thenQ, blockQ]; refine ⟨by simp, by simp (disch := omega) [hE1] <;> omega, ?_⟩
    simp (disch := omega) [if_t, hn, s0, s3, cmpU_ge, cmpU_ge', resD, resL, resV] <;> (first | omega | (simp_all [validTr]; done) | (simp_all [validTr] <;> omega)))
 ·skip
  refine ⟨0, ?_, ?_, ?_, ?_, ?_, ?_⟩
  ·omega
  ·simp
  ·simp (disch := omega) [if_t, hn, cmpU_ge, cmpU_ge']
  ·simp (disch := omega) [if_t, hn, cmpU_ge, cmpU_ge']
  ·first | omega | simp | rfl
  ·rfl

set_option maxHeartbeats 1000000 in
/-- impl.ValidTrace -/
@[simp] theorem c_impl_ValidTrace (tr : List Upd) (n : Nat) (hn : n ≠ 0) (p0 : sizL tr ≤ 1152921504606846976) : cfg.call 62 [cl tr] n = some (bi (validTr tr), n, []) := by
 refine call_runs0 rfl Try.func62 rfl (by kernel_rfl) rfl (by simp (disch := omega) [low_agg, low_pt, low_fn]) ?_; have hl_tr := len_siz tr
 refine Runs.cseq ?_; refine Runs.regO (.inl rfl) nzc (fun R hR => ?_); simp (disch := omega) [if_t, hn, cmpU_ge, cmpU_ge']; refine hR _ _ _ (by simp) ?_; clear hR R; refine Runs.cseq ?_; refine Runs.cseq ?_; refine Runs.regO (.inl rfl) nzc (fun R hR => ?_); simp (disch := omega) [if_t, hn, cmpU_ge, cmpU_ge']; refine hR _ _ _ (by simp) ?_; clear hR R; refine Runs.cblock ?_; refine Runs.loop (fun k fr n' E => ∃ (i : Nat), n ≤ n' ∧ Go.Cv.Loc n E ∧ fr 0 = cl tr ∧ fr 5 = cl tr ∧ fr 6 = ci (tr.length : Int) ∧ fr 7 = ci (i : Int) ∧ i + k = tr.length ∧ allF (okUpd tr) 0 tr.length = allF (okUpd tr) i k) ?_ (k := tr.length) ?_
 ·rintro k1 fr n1 E1 ⟨i, hn1, hE1, s0, s5, s6, s7, hk, hM⟩
  have hz1 : n1 ≠ 0 := by omega
  refine Runs.cseq ?_; refine Runs.regO (.inl rfl) nzc (fun R hR => ?_); simp (disch := omega) [if_t, hn, s0, s5, s6, s7, cmpU_ge, cmpU_ge']; refine hR _ _ _ (by simp) ?_; clear hR R; refine Runs.cseq ?_; refine Runs.condI fun d hd => ?_; simp (disch := omega) [if_t, hn, s0, s5, s6, s7, cmpU_ge, cmpU_ge'] at hd; subst hd; refine cond_b (fun hc => ?_) (fun hc => ?_)
  ·first | (simp at hc; done) |
    (
    (try simp at hc); (try have hcx0 := inR_t.1 hc); (try have hcx1 := isV_t.1 hc); have hsz := siz_ix hc
    simp at hsz; have hs0 := siz_ix (xs := tr) (i := 0) (by omega)
    simp at hs0; have hs1 := siz_ix (xs := tr) (i := i - 1) (by omega)
    simp at hs1; obtain ⟨k1, rfl⟩ : ∃ j, k1 = j + 1 := ⟨k1 - 1, by omega⟩
    rw [allF] at hM; refine Runs.skip ?_; refine Runs.cseq ?_; refine Runs.cblock ?_; refine Runs.cseq ?_; refine Runs.regO (.inl rfl) nzc (fun R hR => ?_); simp (disch := omega) [if_t, hn, s0, s5, s6, s7, cmpU_ge, cmpU_ge']; refine hR _ _ _ (by simp) ?_; clear hR R; refine Runs.cseq ?_; refine Runs.regO (.inr (by kernel_rfl)) nzc (fun R hR => ?_); repeat' (first | (simp (disch := omega) [if_t, hn, s0, s5, s6, s7, cmpU_ge, cmpU_ge']) | (with_reducible refine RunsW.splitN (fun hb => ?_) (fun hb => ?_) <;> (try simp only [hb]) <;> (try simp at hb) <;> (try have hx0 := inR_t.1 hb) <;> (try have hx1 := isV_t.1 hb)) | (with_reducible refine RunsW.split (fun hb => ?_) (fun hb => ?_) <;> (try simp only [hb]) <;> (try simp at hb) <;> (try have hx0 := inR_t.1 hb) <;> (try have hx1 := isV_t.1 hb)))
    all_goals (
     refine hR _ _ _ (by simp) ?_; clear hR R; refine Runs.condI fun d hd => ?_; simp (disch := omega) [if_t, hn, s0, s5, s6, s7, cmpU_ge, cmpU_ge'] at hd; subst hd; refine cond_b (fun hc => ?_) (fun hc => ?_)
     ·first | (simp at hc; done) |
       (
       (try simp at hc); (try have hcx0 := inR_t.1 hc); (try have hcx1 := isV_t.1 hc); have ho : okUpd tr i = false := by clear hM; simp_all [okUpd, inR] <;> omega
       have hM : allF (okUpd tr) 0 tr.length = false := by rw [hM, ho]; rfl
       refine Runs.cseq ?_; refine Runs.regO (.inl rfl) nzc (fun R hR => ?_); simp (disch := omega) [if_t, hn, s0, s5, s6, s7, cmpU_ge, cmpU_ge']; refine hR _ _ _ (by simp) ?_; clear hR R; refine Runs.ret ?_; dsimp only [thenQ, blockQ]; refine ⟨by simp, by simp (disch := omega) [hE1] <;> omega, ?_⟩
       simp (disch := omega) [if_t, hn, s0, s5, s6, s7, cmpU_ge, cmpU_ge', resD, resL, resV] <;> (first | omega | (simp_all [validTr]; done) | (simp_all [validTr] <;> omega)))
     ·first | (simp at hc; done) |
       (
       (try simp at hc); (try have hcx0 := inR_t.1 hc); (try have hcx1 := isV_t.1 hc); have ho : okUpd tr i = true := by clear hM; simp_all [okUpd, inR] <;> omega
       rw [ho, Bool.true_and] at hM; refine Runs.skip ?_; refine Runs.regO (.inl rfl) nzc (fun R hR => ?_); simp (disch := omega) [if_t, hn, s0, s5, s6, s7, cmpU_ge, cmpU_ge']; refine hR _ _ _ (by simp) ?_; clear hR R; dsimp only [thenQ, blockQ]; refine ⟨k1, by omega, i + 1, ?_, ?_, ?_, ?_, ?_, ?_, ?_, ?_⟩
       ·omega
       ·simp (disch := omega) [hE1] <;> omega
       ·simp (disch := omega) [if_t, hn, s0, s5, s6, s7, cmpU_ge, cmpU_ge']
       ·simp (disch := omega) [if_t, hn, s0, s5, s6, s7, cmpU_ge, cmpU_ge']
       ·simp (disch := omega) [if_t, hn, s0, s5, s6, s7, cmpU_ge, cmpU_ge']
       ·simp (disch := omega) [if_t, hn, s0, s5, s6, s7, cmpU_ge, cmpU_ge']
       ·first | omega | assumption
       ·rw [hM])))
  ·first | (simp at hc; done) |
    (
    (try simp at hc); (try have hcx0 := inR_t.1 hc); (try have hcx1 := isV_t.1 hc); obtain rfl : k1 = 0 := by omega
    rw [allF] at hM; refine Runs.exit ?_; refine Runs.cseq ?_; refine Runs.regO (.inl rfl) nzc (fun R hR => ?_); simp (disch := omega) [if_t, hn, s0, s5, s6, s7, cmpU_ge, cmpU_ge']; refine hR _ _ _ (by simp) ?_; clear hR R; refine Runs.ret ?_; dsimp only [thenQ, blockQ]; refine ⟨by simp, by simp (disch := omega) [hE1] <;> omega, ?_⟩
    simp (disch := omega) [if_t, hn, s0, s5, s6, s7, cmpU_ge, cmpU_ge', resD, resL, resV] <;> (first | omega | (simp_all [validTr]; done) | (simp_all [validTr] <;> omega)))
 ·skip
  refine ⟨0, ?_, ?_, ?_, ?_, ?_, ?_, ?_, ?_⟩
  ·omega
  ·simp
  ·simp (disch := omega) [if_t, hn, cmpU_ge, cmpU_ge']
  ·simp (disch := omega) [if_t, hn, cmpU_ge, cmpU_ge']
  ·simp (disch := omega) [if_t, hn, cmpU_ge, cmpU_ge']
  ·simp (disch := omega) [if_t, hn, cmpU_ge, cmpU_ge']
  ·first | omega | simp | rfl
  ·rfl

def noCov (f : List Tim) : List Upd → Bool
  | [] => true
  | u :: us => !cov f u.t && noCov f us
def validVw (v : Vw) : Bool := fle v.since v.upper && (validTr v.tr && noCov v.upper v.tr)

set_option maxHeartbeats 1000000 in
/-- impl.ValidView -/
@[simp] theorem c_impl_ValidView (v : Vw) (n : Nat) (hn : n ≠ 0) (p0 : sizL v.since ≤ 1152921504606846976) (p1 : sizL v.upper ≤ 1152921504606846976) (p2 : sizL v.tr ≤ 1152921504606846976) : cfg.call 26 [.agg [cl v.since, cl v.upper, cl v.tr]] n = some (bi (validVw v), n, []) := by
 refine call_runs0 rfl Try.func26 rfl (by kernel_rfl) rfl (by simp (disch := omega) [low_agg, low_pt, low_fn]) ?_; have hl := len_siz v.tr
 refine Runs.cseq ?_; refine Runs.regO (.inl rfl) nzc (fun R hR => ?_); simp (disch := omega) [if_t, hn]; refine hR _ _ _ (by simp) ?_; clear hR R; refine Runs.cseq ?_; refine Runs.cseq ?_; refine Runs.regO (.inl rfl) nzc (fun R hR => ?_); repeat' (first | (simp (disch := omega) [if_t, hn]) | (with_reducible refine RunsW.splitN (fun hb => ?_) (fun hb => ?_) <;> (try simp only [hb]) <;> (try simp at hb) <;> (try have hx0 := inR_t.1 hb) <;> (try have hx1 := isV_t.1 hb)) | (with_reducible refine RunsW.split (fun hb => ?_) (fun hb => ?_) <;> (try simp only [hb]) <;> (try simp at hb) <;> (try have hx0 := inR_t.1 hb) <;> (try have hx1 := isV_t.1 hb)))
 all_goals (
  refine hR _ _ _ (by simp) ?_; clear hR R; refine Runs.condI fun d hd => ?_; simp (disch := omega) [if_t, hn] at hd; subst hd; refine cond_b (fun hc => ?_) (fun hc => ?_)
  ·first | (simp at hc; done) |
    (
    (try simp at hc); (try have hcx0 := inR_t.1 hc); (try have hcx1 := isV_t.1 hc); refine Runs.cseq ?_; refine Runs.regO (.inl rfl) nzc (fun R hR => ?_); simp (disch := omega) [if_t, hn]; refine hR _ _ _ (by simp) ?_; clear hR R; refine Runs.ret ?_; dsimp only [thenQ, blockQ]; refine ⟨by simp, by simp (disch := omega) <;> omega, ?_⟩
    simp (disch := omega) [if_t, hn, resD, resL, resV] <;> (first | omega | (simp_all [validVw, noCov]; done) | (simp_all [validVw, noCov] <;> omega)))
  ·first | (simp at hc; done) |
    (
    (try simp at hc); (try have hcx0 := inR_t.1 hc); (try have hcx1 := isV_t.1 hc); refine Runs.skip ?_; refine Runs.cseq ?_; refine Runs.cseq ?_; refine Runs.regO (.inl rfl) nzc (fun R hR => ?_); simp (disch := omega) [if_t, hn]; refine hR _ _ _ (by simp) ?_; clear hR R; refine Runs.cblock ?_; refine Runs.loop (fun k fr n' E => ∃ (i : Nat), n + 1 ≤ n' ∧ Go.Cv.Loc n E ∧ fr 1 = .pt n 0 [cl v.since, cl v.upper, cl v.tr] ∧ fr 18 = cl v.tr ∧ fr 19 = ci (v.tr.length : Int) ∧ fr 20 = ci (i : Int) ∧ i + k = v.tr.length ∧ noCov v.upper v.tr = noCov v.upper (v.tr.drop i)) ?_ (k := v.tr.length) ?_
    ·rintro k1 fr n1 E1 ⟨i, hn1, hE1, s1, s18, s19, s20, hk, hM⟩
     have hz1 : n1 ≠ 0 := by omega
     refine Runs.cseq ?_; refine Runs.regO (.inl rfl) nzc (fun R hR => ?_); simp (disch := omega) [if_t, hn, s1, s18, s19, s20]; refine hR _ _ _ (by simp) ?_; clear hR R; refine Runs.cseq ?_; refine Runs.condI fun d hd => ?_; simp (disch := omega) [if_t, hn, s1, s18, s19, s20] at hd; subst hd; refine cond_b (fun hc => ?_) (fun hc => ?_)
     ·first | (simp at hc; done) |
       (
       (try simp at hc); (try have hcx0 := inR_t.1 hc); (try have hcx1 := isV_t.1 hc); rw [drop_ix hc] at hM; rw [noCov] at hM; refine Runs.skip ?_; refine Runs.cseq ?_; refine Runs.cblock ?_; refine Runs.cseq ?_; refine Runs.regO (.inl rfl) nzc (fun R hR => ?_); simp (disch := omega) [if_t, hn, s1, s18, s19, s20]; refine hR _ _ _ (by simp) ?_; clear hR R; refine Runs.cseq ?_; refine Runs.regO (.inl rfl) nzc (fun R hR => ?_); simp (disch := omega) [if_t, hn, s1, s18, s19, s20]; refine hR _ _ _ (by simp) ?_; clear hR R; refine Runs.condI fun d hd => ?_; simp (disch := omega) [if_t, hn, s1, s18, s19, s20] at hd; subst hd; refine cond_b (fun hc => ?_) (fun hc => ?_)
       ·first | (simp at hc; done) |
         (
         (try simp at hc); (try have hcx0 := inR_t.1 hc); (try have hcx1 := isV_t.1 hc); rw [hc, Bool.not_true, Bool.false_and] at hM; refine Runs.cseq ?_; refine Runs.regO (.inl rfl) nzc (fun R hR => ?_); simp (disch := omega) [if_t, hn, s1, s18, s19, s20]; refine hR _ _ _ (by simp) ?_; clear hR R; refine Runs.ret ?_; dsimp only [thenQ, blockQ]; refine ⟨by simp, by simp (disch := omega) [hE1] <;> omega, ?_⟩
         simp (disch := omega) [if_t, hn, s1, s18, s19, s20, resD, resL, resV] <;> (first | omega | (simp_all [validVw, noCov]; done) | (simp_all [validVw, noCov] <;> omega)))
       ·first | (simp at hc; done) |
         (
         (try simp at hc); (try have hcx0 := inR_t.1 hc); (try have hcx1 := isV_t.1 hc); rw [hc, Bool.not_false, Bool.true_and] at hM; refine Runs.skip ?_; refine Runs.regO (.inl rfl) nzc (fun R hR => ?_); simp (disch := omega) [if_t, hn, s1, s18, s19, s20]; refine hR _ _ _ (by simp) ?_; clear hR R; dsimp only [thenQ, blockQ]; refine ⟨k1 - 1, by omega, i + 1, ?_, ?_, ?_, ?_, ?_, ?_, ?_, ?_⟩
         ·omega
         ·simp (disch := omega) [hE1] <;> omega
         ·simp (disch := omega) [if_t, hn, s1, s18, s19, s20]
         ·simp (disch := omega) [if_t, hn, s1, s18, s19, s20]
         ·simp (disch := omega) [if_t, hn, s1, s18, s19, s20]
         ·simp (disch := omega) [if_t, hn, s1, s18, s19, s20]
         ·first | omega | assumption
         ·rw [hM]))
     ·first | (simp at hc; done) |
       (
       (try simp at hc); (try have hcx0 := inR_t.1 hc); (try have hcx1 := isV_t.1 hc); rw [List.drop_of_length_le (by omega)] at hM; refine Runs.exit ?_; refine Runs.cseq ?_; refine Runs.regO (.inl rfl) nzc (fun R hR => ?_); simp (disch := omega) [if_t, hn, s1, s18, s19, s20]; refine hR _ _ _ (by simp) ?_; clear hR R; refine Runs.ret ?_; dsimp only [thenQ, blockQ]; refine ⟨by simp, by simp (disch := omega) [hE1] <;> omega, ?_⟩
       simp (disch := omega) [if_t, hn, s1, s18, s19, s20, resD, resL, resV] <;> (first | omega | (simp_all [validVw, noCov]; done) | (simp_all [validVw, noCov] <;> omega)))
    ·skip
     refine ⟨0, ?_, ?_, ?_, ?_, ?_, ?_, ?_, ?_⟩
     ·omega
     ·simp
     ·simp (disch := omega) [if_t, hn]
     ·simp (disch := omega) [if_t, hn]
     ·simp (disch := omega) [if_t, hn]
     ·simp (disch := omega) [if_t, hn]
     ·first | omega | simp | rfl
     ·rfl))

end Go.Proofs.Ytlokmogjbpcmgaa.Cv
