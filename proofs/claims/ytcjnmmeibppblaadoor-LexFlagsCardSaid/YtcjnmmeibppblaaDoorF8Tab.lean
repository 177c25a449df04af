import Derived.Test.YtcjnmmeibppblaaDoorF8V0
import Derived.Test.YtcjnmmeibppblaaDoorF8V1
import Derived.Test.YtcjnmmeibppblaaDoorF8V2
set_option maxRecDepth 100000
set_option linter.unusedVariables false
set_option linter.unusedSimpArgs false
namespace Go.Proofs.YtcjnmmeibppblaaDoor
open Go Go.AM
def m21 : Nat → S35 → S35 → Option (S35)
  | 0, _, _ => none
  | n + 1, x0, x1 => fn21 n x0 x1
def m25 : Nat → S35 → Option (S35)
  | 0, _ => none
  | n + 1, x0 => fn25 n x0
def m45 : Nat → ByteArray → ByteArray → Option (Bool)
  | 0, _, _ => none
  | n + 1, x0, x1 => fn45 n x0 x1
def m26 : Nat → ByteArray → ByteArray → Option (Bool)
  | 0, _, _ => none
  | n + 1, x0, x1 => fn26 (m45 n) n x0 x1
def m36 : Nat → S35 → Int → Option (S35)
  | 0, _, _ => none
  | n + 1, x0, x1 => fn36 n x0 x1
def m20 : Nat → Int → Int → Option (S35)
  | 0, _, _ => none
  | n + 1, x0, x1 => fn20 (m36 n) n x0 x1
def m17 : Nat → Int → Option (S35)
  | 0, _ => none
  | n + 1, x0 => fn17 (m36 n) n x0
def m60 : Nat → ByteArray → Int → Option (Int)
  | 0, _, _ => none
  | n + 1, x0, x1 => fn60 n x0 x1
def m49 : Nat → ByteArray → Int → Option (Int)
  | 0, _, _ => none
  | n + 1, x0, x1 => fn49 (m60 n) n x0 x1
def m52 : Nat → Int → Int → Option (Int)
  | 0, _, _ => none
  | n + 1, x0, x1 => fn52 n x0 x1
def m62 : Nat → Option (S35)
  | 0 => none
  | n + 1 => fn62 (m20 n) n
def m63 : Nat → Option (S35)
  | 0 => none
  | n + 1 => fn63 (m17 n) (m20 n) (m21 n) (m62 n) n
def m64 : Nat → Option (S35)
  | 0 => none
  | n + 1 => fn64 (m17 n) (m20 n) (m21 n) n
def m19 : Nat → S35 → Int → Option (Bool)
  | 0, _, _ => none
  | n + 1, x0, x1 => fn19 n x0 x1
def m65 : Nat → Int → Option (Bool)
  | 0, _ => none
  | n + 1, x0 => fn65 (m19 n) (m63 n) n x0
def m53 : Nat → ByteArray → Option (S35 × Int)
  | 0, _ => none
  | n + 1, x0 => fn53 (m17 n) (m25 n) (m49 n) (m52 n) (m62 n) (m63 n) (m64 n) (m65 n) n x0
def m46 : Nat → ByteArray → Option (S35 × Int)
  | 0, _ => none
  | n + 1, x0 => fn46 (m17 n) (m49 n) (m53 n) n x0
def m58 : Nat → Int → Option (Int)
  | 0, _ => none
  | n + 1, x0 => fn58 n x0
def m47 : Nat → S35 → Option (Int × Bool)
  | 0, _ => none
  | n + 1, x0 => fn47 (m58 n) n x0
def m59 : Nat → Int → Option (Int)
  | 0, _ => none
  | n + 1, x0 => fn59 n x0
def m48 : Nat → S35 → Option (Int)
  | 0, _ => none
  | n + 1, x0 => fn48 (m59 n) n x0
def m27 : Nat → ByteArray → Option (S35 × Int)
  | 0, _ => none
  | n + 1, x0 => fn27 (m20 n) (m46 n) (m47 n) (m48 n) n x0
def m15 : Nat → ByteArray → Int → Option (S35 × Int × Int)
  | 0, _, _ => none
  | n + 1, x0, x1 => fn15 (m21 n) (m25 n) (m26 n) (m27 n) n x0 x1
def m37 : Nat → Int → Option (Int × Bool)
  | 0, _ => none
  | n + 1, x0 => fn37 (m49 n) n x0
def m50 : Nat → ByteArray → Int → Option (Bool)
  | 0, _, _ => none
  | n + 1, x0, x1 => fn50 n x0 x1
def m38 : Nat → ByteArray → Option (S45 × Int × Int)
  | 0, _ => none
  | n + 1, x0 => fn38 (m26 n) (m50 n) n x0
def m61 : Nat → ByteArray → Option (Int × Int)
  | 0, _ => none
  | n + 1, x0 => fn61 (m52 n) n x0
def m51 : Nat → ByteArray → Option (Int × Int × Int)
  | 0, _ => none
  | n + 1, x0 => fn51 (m61 n) n x0
def m39 : Nat → ByteArray → Option (S45 × Int × Int)
  | 0, _ => none
  | n + 1, x0 => fn39 (m26 n) (m51 n) n x0
def m40 : Nat → ByteArray → Option (S45 × Int × Int)
  | 0, _ => none
  | n + 1, x0 => fn40 (m26 n) (m52 n) (m53 n) n x0
def m23 : Nat → ByteArray → Option (S45 × Int × Int)
  | 0, _ => none
  | n + 1, x0 => fn23 (m15 n) (m17 n) (m37 n) (m38 n) (m39 n) (m40 n) n x0
def m10 : Nat → ByteArray → Option ((Sl S45) × Int)
  | 0, _ => none
  | n + 1, x0 => fn10 (m23 n) n x0
def m18 : Nat → ByteArray → Option (S35)
  | 0, _ => none
  | n + 1, x0 => fn18 (m36 n) n x0
def m14 : Nat → Option (Bool)
  | 0 => none
  | n + 1 => fn14 (m10 n) (m15 n) (m17 n) (m18 n) (m25 n) n
def m8 : Nat → (Arr Int 3) → Int → Option (Bool)
  | 0, _, _ => none
  | n + 1, x0, x1 => fn8 (m10 n) (m14 n) n x0 x1
def K8 : Co where
  f := 8
  X := (Arr Int 3) × Int
  R := Bool
  rd := fun ro H args x => args = [(vAgg ((cArr (n := 3) (cInt .u8)) (x.1))), (.int .u8 (x.2))] ∧ TabH0 H
  inj := by
    rintro ro H args ⟨x0, x1⟩ ⟨y0, y1⟩ ⟨h, f0⟩ ⟨h', g0⟩
    rw [h] at h'; simp only [List.cons.injEq, and_true] at h'
    obtain ⟨e0, e1⟩ := h'
    have z0 : x0 = y0 := (enc_arr (n := 3) enc_int).inj _ _ (vAgg_inj e0)
    have z1 : x1 = y1 := by injection e1
    subst z0 z1; rfl
  m := fun n x => m8 n (x.1) (x.2)
  lay := fun r args H => ((.bool (r)), H)
def K10 : Co where
  f := 10
  X := ByteArray
  R := (Sl S45) × Int
  rd := fun ro H args x => args = [(.string x)] ∧ TabH0 H
  inj := by
    rintro ro H args x0 y0 ⟨h, f0⟩ ⟨h', g0⟩
    rw [h] at h'; simp only [List.cons.injEq, and_true] at h'
    have e0 := h'
    have z0 : x0 = y0 := by injection e0
    subst z0; rfl
  m := fun n x => m10 n x
  lay := fun r args H => ((.tuple [(slV r.1 H.length), (.int .i64 (r.2))].toArray), (H ++ slB S45.c 46 r.1))
def K14 : Co where
  f := 14
  X := Unit
  R := Bool
  rd := fun ro H args x => args = [] ∧ TabH0 H
  inj := by
    intros; rfl
  m := fun n x => m14 n
  lay := fun r args H => ((.bool (r)), H)
def K15 : Co where
  f := 15
  X := ByteArray × Int
  R := S35 × Int × Int
  rd := fun ro H args x => args = [(.string (x.1)), (.int .i64 (x.2))] ∧ TabH0 H
  inj := by
    rintro ro H args ⟨x0, x1⟩ ⟨y0, y1⟩ ⟨h, f0⟩ ⟨h', g0⟩
    rw [h] at h'; simp only [List.cons.injEq, and_true] at h'
    obtain ⟨e0, e1⟩ := h'
    have z0 : x0 = y0 := by injection e0
    have z1 : x1 = y1 := by injection e1
    subst z0 z1; rfl
  m := fun n x => m15 n (x.1) (x.2)
  lay := fun r args H => ((.tuple [(vAgg (S35.c (r.1))), (.int .i64 (r.2.1)), (.int .i64 (r.2.2))].toArray), H)
def K17 : Co where
  f := 17
  X := Int
  R := S35
  rd := fun ro H args x => args = [(.int .u8 x)]
  inj := by
    rintro ro H args x0 y0 h h'
    rw [h] at h'; simp only [List.cons.injEq, and_true] at h'
    have e0 := h'
    have z0 : x0 = y0 := by injection e0
    subst z0; rfl
  m := fun n x => m17 n x
  lay := fun r args H => ((vAgg (S35.c (r))), H)
def K18 : Co where
  f := 18
  X := ByteArray
  R := S35
  rd := fun ro H args x => args = [(.string x)]
  inj := by
    rintro ro H args x0 y0 h h'
    rw [h] at h'; simp only [List.cons.injEq, and_true] at h'
    have e0 := h'
    have z0 : x0 = y0 := by injection e0
    subst z0; rfl
  m := fun n x => m18 n x
  lay := fun r args H => ((vAgg (S35.c (r))), H)
def K19 : Co where
  f := 19
  X := S35 × Int
  R := Bool
  rd := fun ro H args x => args = [(vAgg (S35.c (x.1))), (.int .u8 (x.2))]
  inj := by
    rintro ro H args ⟨x0, x1⟩ ⟨y0, y1⟩ h h'
    rw [h] at h'; simp only [List.cons.injEq, and_true] at h'
    obtain ⟨e0, e1⟩ := h'
    have z0 : x0 = y0 := S35.enc.inj _ _ (vAgg_inj e0)
    have z1 : x1 = y1 := by injection e1
    subst z0 z1; rfl
  m := fun n x => m19 n (x.1) (x.2)
  lay := fun r args H => ((.bool (r)), H)
def K20 : Co where
  f := 20
  X := Int × Int
  R := S35
  rd := fun ro H args x => args = [(.int .u8 (x.1)), (.int .u8 (x.2))]
  inj := by
    rintro ro H args ⟨x0, x1⟩ ⟨y0, y1⟩ h h'
    rw [h] at h'; simp only [List.cons.injEq, and_true] at h'
    obtain ⟨e0, e1⟩ := h'
    have z0 : x0 = y0 := by injection e0
    have z1 : x1 = y1 := by injection e1
    subst z0 z1; rfl
  m := fun n x => m20 n (x.1) (x.2)
  lay := fun r args H => ((vAgg (S35.c (r))), H)
def K21 : Co where
  f := 21
  X := S35 × S35
  R := S35
  rd := fun ro H args x => args = [(vAgg (S35.c (x.1))), (vAgg (S35.c (x.2)))]
  inj := by
    rintro ro H args ⟨x0, x1⟩ ⟨y0, y1⟩ h h'
    rw [h] at h'; simp only [List.cons.injEq, and_true] at h'
    obtain ⟨e0, e1⟩ := h'
    have z0 : x0 = y0 := S35.enc.inj _ _ (vAgg_inj e0)
    have z1 : x1 = y1 := S35.enc.inj _ _ (vAgg_inj e1)
    subst z0 z1; rfl
  m := fun n x => m21 n (x.1) (x.2)
  lay := fun r args H => ((vAgg (S35.c (r))), H)
def K23 : Co where
  f := 23
  X := ByteArray
  R := S45 × Int × Int
  rd := fun ro H args x => args = [(.string x)] ∧ TabH0 H
  inj := by
    rintro ro H args x0 y0 ⟨h, f0⟩ ⟨h', g0⟩
    rw [h] at h'; simp only [List.cons.injEq, and_true] at h'
    have e0 := h'
    have z0 : x0 = y0 := by injection e0
    subst z0; rfl
  m := fun n x => m23 n x
  lay := fun r args H => ((.tuple [(vAgg (S45.c (r.1))), (.int .i64 (r.2.1)), (.int .i64 (r.2.2))].toArray), H)
def K25 : Co where
  f := 25
  X := S35
  R := S35
  rd := fun ro H args x => args = [(vAgg (S35.c x))]
  inj := by
    rintro ro H args x0 y0 h h'
    rw [h] at h'; simp only [List.cons.injEq, and_true] at h'
    have e0 := h'
    have z0 : x0 = y0 := S35.enc.inj _ _ (vAgg_inj e0)
    subst z0; rfl
  m := fun n x => m25 n x
  lay := fun r args H => ((vAgg (S35.c (r))), H)
def K26 : Co where
  f := 26
  X := ByteArray × ByteArray
  R := Bool
  rd := fun ro H args x => args = [(.string (x.1)), (.string (x.2))]
  inj := by
    rintro ro H args ⟨x0, x1⟩ ⟨y0, y1⟩ h h'
    rw [h] at h'; simp only [List.cons.injEq, and_true] at h'
    obtain ⟨e0, e1⟩ := h'
    have z0 : x0 = y0 := by injection e0
    have z1 : x1 = y1 := by injection e1
    subst z0 z1; rfl
  m := fun n x => m26 n (x.1) (x.2)
  lay := fun r args H => ((.bool (r)), H)
def K27 : Co where
  f := 27
  X := ByteArray
  R := S35 × Int
  rd := fun ro H args x => args = [(.string x)] ∧ TabH0 H
  inj := by
    rintro ro H args x0 y0 ⟨h, f0⟩ ⟨h', g0⟩
    rw [h] at h'; simp only [List.cons.injEq, and_true] at h'
    have e0 := h'
    have z0 : x0 = y0 := by injection e0
    subst z0; rfl
  m := fun n x => m27 n x
  lay := fun r args H => ((.tuple [(vAgg (S35.c (r.1))), (.int .i64 (r.2))].toArray), H)
def K36 : Co where
  f := 36
  X := S35 × Int
  R := S35
  rd := fun ro H args x => ∃ (b0 : Nat), args = [(.pointer (some ⟨b0, 0, none⟩)), (.int .u8 (x.2))] ∧ H[b0]? = some (.cells (S35.c (x.1)) 36) ∧ ro ≤ b0
  inj := by
    rintro ro H args ⟨x0, x1⟩ ⟨y0, y1⟩ ⟨b0, h, f0, f1⟩ ⟨db0, h', g0, g1⟩
    rw [h] at h'; simp only [List.cons.injEq, and_true] at h'
    obtain ⟨e0, e1⟩ := h'
    have z0 : x0 = y0 := by
      have e : b0 = db0 := by injection e0 with e; injection e with e; injection e
      subst e; rw [f0] at g0; injection g0 with q; injection q with q _; exact S35.enc.inj _ _ q
    have z1 : x1 = y1 := by injection e1
    subst z0 z1; rfl
  m := fun n x => m36 n (x.1) (x.2)
  lay := fun r args H => ((.tuple [].toArray), (H.set (blkOf (args.getD 0 default)) (.cells (S35.c r) 36)))
def K37 : Co where
  f := 37
  X := Int
  R := Int × Bool
  rd := fun ro H args x => args = [(.int .u8 x)]
  inj := by
    rintro ro H args x0 y0 h h'
    rw [h] at h'; simp only [List.cons.injEq, and_true] at h'
    have e0 := h'
    have z0 : x0 = y0 := by injection e0
    subst z0; rfl
  m := fun n x => m37 n x
  lay := fun r args H => ((.tuple [(.int .i64 (r.1)), (.bool (r.2))].toArray), H)
def K38 : Co where
  f := 38
  X := ByteArray
  R := S45 × Int × Int
  rd := fun ro H args x => args = [(.string x)]
  inj := by
    rintro ro H args x0 y0 h h'
    rw [h] at h'; simp only [List.cons.injEq, and_true] at h'
    have e0 := h'
    have z0 : x0 = y0 := by injection e0
    subst z0; rfl
  m := fun n x => m38 n x
  lay := fun r args H => ((.tuple [(vAgg (S45.c (r.1))), (.int .i64 (r.2.1)), (.int .i64 (r.2.2))].toArray), H)
def K39 : Co where
  f := 39
  X := ByteArray
  R := S45 × Int × Int
  rd := fun ro H args x => args = [(.string x)]
  inj := by
    rintro ro H args x0 y0 h h'
    rw [h] at h'; simp only [List.cons.injEq, and_true] at h'
    have e0 := h'
    have z0 : x0 = y0 := by injection e0
    subst z0; rfl
  m := fun n x => m39 n x
  lay := fun r args H => ((.tuple [(vAgg (S45.c (r.1))), (.int .i64 (r.2.1)), (.int .i64 (r.2.2))].toArray), H)
def K40 : Co where
  f := 40
  X := ByteArray
  R := S45 × Int × Int
  rd := fun ro H args x => args = [(.string x)]
  inj := by
    rintro ro H args x0 y0 h h'
    rw [h] at h'; simp only [List.cons.injEq, and_true] at h'
    have e0 := h'
    have z0 : x0 = y0 := by injection e0
    subst z0; rfl
  m := fun n x => m40 n x
  lay := fun r args H => ((.tuple [(vAgg (S45.c (r.1))), (.int .i64 (r.2.1)), (.int .i64 (r.2.2))].toArray), H)
def K45 : Co where
  f := 45
  X := ByteArray × ByteArray
  R := Bool
  rd := fun ro H args x => args = [(.string (x.1)), (.string (x.2))]
  inj := by
    rintro ro H args ⟨x0, x1⟩ ⟨y0, y1⟩ h h'
    rw [h] at h'; simp only [List.cons.injEq, and_true] at h'
    obtain ⟨e0, e1⟩ := h'
    have z0 : x0 = y0 := by injection e0
    have z1 : x1 = y1 := by injection e1
    subst z0 z1; rfl
  m := fun n x => m45 n (x.1) (x.2)
  lay := fun r args H => ((.bool (r)), H)
def K46 : Co where
  f := 46
  X := ByteArray
  R := S35 × Int
  rd := fun ro H args x => args = [(.string x)]
  inj := by
    rintro ro H args x0 y0 h h'
    rw [h] at h'; simp only [List.cons.injEq, and_true] at h'
    have e0 := h'
    have z0 : x0 = y0 := by injection e0
    subst z0; rfl
  m := fun n x => m46 n x
  lay := fun r args H => ((.tuple [(vAgg (S35.c (r.1))), (.int .i64 (r.2))].toArray), H)
def K47 : Co where
  f := 47
  X := S35
  R := Int × Bool
  rd := fun ro H args x => args = [(vAgg (S35.c x))] ∧ TabH0 H
  inj := by
    rintro ro H args x0 y0 ⟨h, f0⟩ ⟨h', g0⟩
    rw [h] at h'; simp only [List.cons.injEq, and_true] at h'
    have e0 := h'
    have z0 : x0 = y0 := S35.enc.inj _ _ (vAgg_inj e0)
    subst z0; rfl
  m := fun n x => m47 n x
  lay := fun r args H => ((.tuple [(.int .u8 (r.1)), (.bool (r.2))].toArray), H)
def K48 : Co where
  f := 48
  X := S35
  R := Int
  rd := fun ro H args x => args = [(vAgg (S35.c x))]
  inj := by
    rintro ro H args x0 y0 h h'
    rw [h] at h'; simp only [List.cons.injEq, and_true] at h'
    have e0 := h'
    have z0 : x0 = y0 := S35.enc.inj _ _ (vAgg_inj e0)
    subst z0; rfl
  m := fun n x => m48 n x
  lay := fun r args H => ((.int .i64 (r)), H)
def K49 : Co where
  f := 49
  X := ByteArray × Int
  R := Int
  rd := fun ro H args x => args = [(.string (x.1)), (.int .u8 (x.2))]
  inj := by
    rintro ro H args ⟨x0, x1⟩ ⟨y0, y1⟩ h h'
    rw [h] at h'; simp only [List.cons.injEq, and_true] at h'
    obtain ⟨e0, e1⟩ := h'
    have z0 : x0 = y0 := by injection e0
    have z1 : x1 = y1 := by injection e1
    subst z0 z1; rfl
  m := fun n x => m49 n (x.1) (x.2)
  lay := fun r args H => ((.int .i64 (r)), H)
def K50 : Co where
  f := 50
  X := ByteArray × Int
  R := Bool
  rd := fun ro H args x => args = [(.string (x.1)), (.int .i32 (x.2))]
  inj := by
    rintro ro H args ⟨x0, x1⟩ ⟨y0, y1⟩ h h'
    rw [h] at h'; simp only [List.cons.injEq, and_true] at h'
    obtain ⟨e0, e1⟩ := h'
    have z0 : x0 = y0 := by injection e0
    have z1 : x1 = y1 := by injection e1
    subst z0 z1; rfl
  m := fun n x => m50 n (x.1) (x.2)
  lay := fun r args H => ((.bool (r)), H)
def K51 : Co where
  f := 51
  X := ByteArray
  R := Int × Int × Int
  rd := fun ro H args x => args = [(.string x)]
  inj := by
    rintro ro H args x0 y0 h h'
    rw [h] at h'; simp only [List.cons.injEq, and_true] at h'
    have e0 := h'
    have z0 : x0 = y0 := by injection e0
    subst z0; rfl
  m := fun n x => m51 n x
  lay := fun r args H => ((.tuple [(.int .i64 (r.1)), (.int .i64 (r.2.1)), (.int .i64 (r.2.2))].toArray), H)
def K52 : Co where
  f := 52
  X := Int × Int
  R := Int
  rd := fun ro H args x => args = [(.int .u8 (x.1)), (.int .i64 (x.2))]
  inj := by
    rintro ro H args ⟨x0, x1⟩ ⟨y0, y1⟩ h h'
    rw [h] at h'; simp only [List.cons.injEq, and_true] at h'
    obtain ⟨e0, e1⟩ := h'
    have z0 : x0 = y0 := by injection e0
    have z1 : x1 = y1 := by injection e1
    subst z0 z1; rfl
  m := fun n x => m52 n (x.1) (x.2)
  lay := fun r args H => ((.int .i64 (r)), H)
def K53 : Co where
  f := 53
  X := ByteArray
  R := S35 × Int
  rd := fun ro H args x => args = [(.string x)]
  inj := by
    rintro ro H args x0 y0 h h'
    rw [h] at h'; simp only [List.cons.injEq, and_true] at h'
    have e0 := h'
    have z0 : x0 = y0 := by injection e0
    subst z0; rfl
  m := fun n x => m53 n x
  lay := fun r args H => ((.tuple [(vAgg (S35.c (r.1))), (.int .i64 (r.2))].toArray), H)
def K58 : Co where
  f := 58
  X := Int
  R := Int
  rd := fun ro H args x => args = [(.int .u64 x)] ∧ TabH0 H
  inj := by
    rintro ro H args x0 y0 ⟨h, f0⟩ ⟨h', g0⟩
    rw [h] at h'; simp only [List.cons.injEq, and_true] at h'
    have e0 := h'
    have z0 : x0 = y0 := by injection e0
    subst z0; rfl
  m := fun n x => m58 n x
  lay := fun r args H => ((.int .i64 (r)), H)
def K59 : Co where
  f := 59
  X := Int
  R := Int
  rd := fun ro H args x => args = [(.int .u64 x)]
  inj := by
    rintro ro H args x0 y0 h h'
    rw [h] at h'; simp only [List.cons.injEq, and_true] at h'
    have e0 := h'
    have z0 : x0 = y0 := by injection e0
    subst z0; rfl
  m := fun n x => m59 n x
  lay := fun r args H => ((.int .i64 (r)), H)
def K60 : Co where
  f := 60
  X := ByteArray × Int
  R := Int
  rd := fun ro H args x => args = [(.string (x.1)), (.int .u8 (x.2))]
  inj := by
    rintro ro H args ⟨x0, x1⟩ ⟨y0, y1⟩ h h'
    rw [h] at h'; simp only [List.cons.injEq, and_true] at h'
    obtain ⟨e0, e1⟩ := h'
    have z0 : x0 = y0 := by injection e0
    have z1 : x1 = y1 := by injection e1
    subst z0 z1; rfl
  m := fun n x => m60 n (x.1) (x.2)
  lay := fun r args H => ((.int .i64 (r)), H)
def K61 : Co where
  f := 61
  X := ByteArray
  R := Int × Int
  rd := fun ro H args x => args = [(.string x)]
  inj := by
    rintro ro H args x0 y0 h h'
    rw [h] at h'; simp only [List.cons.injEq, and_true] at h'
    have e0 := h'
    have z0 : x0 = y0 := by injection e0
    subst z0; rfl
  m := fun n x => m61 n x
  lay := fun r args H => ((.tuple [(.int .i64 (r.1)), (.int .i64 (r.2))].toArray), H)
def K62 : Co where
  f := 62
  X := Unit
  R := S35
  rd := fun ro H args x => args = []
  inj := by
    intros; rfl
  m := fun n x => m62 n
  lay := fun r args H => ((vAgg (S35.c (r))), H)
def K63 : Co where
  f := 63
  X := Unit
  R := S35
  rd := fun ro H args x => args = []
  inj := by
    intros; rfl
  m := fun n x => m63 n
  lay := fun r args H => ((vAgg (S35.c (r))), H)
def K64 : Co where
  f := 64
  X := Unit
  R := S35
  rd := fun ro H args x => args = []
  inj := by
    intros; rfl
  m := fun n x => m64 n
  lay := fun r args H => ((vAgg (S35.c (r))), H)
def K65 : Co where
  f := 65
  X := Int
  R := Bool
  rd := fun ro H args x => args = [(.int .u8 x)]
  inj := by
    rintro ro H args x0 y0 h h'
    rw [h] at h'; simp only [List.cons.injEq, and_true] at h'
    have e0 := h'
    have z0 : x0 = y0 := by injection e0
    subst z0; rfl
  m := fun n x => m65 n x
  lay := fun r args H => ((.bool (r)), H)
def T : FuncId → Option Co
  | 8 => some K8
  | 10 => some K10
  | 14 => some K14
  | 15 => some K15
  | 17 => some K17
  | 18 => some K18
  | 19 => some K19
  | 20 => some K20
  | 21 => some K21
  | 23 => some K23
  | 25 => some K25
  | 26 => some K26
  | 27 => some K27
  | 36 => some K36
  | 37 => some K37
  | 38 => some K38
  | 39 => some K39
  | 40 => some K40
  | 45 => some K45
  | 46 => some K46
  | 47 => some K47
  | 48 => some K48
  | 49 => some K49
  | 50 => some K50
  | 51 => some K51
  | 52 => some K52
  | 53 => some K53
  | 58 => some K58
  | 59 => some K59
  | 60 => some K60
  | 61 => some K61
  | 62 => some K62
  | 63 => some K63
  | 64 => some K64
  | 65 => some K65
  | _ => none
theorem an8 {n : Nat} : A8 (tabC T n) (m8 n) := fun ro H x0 x1 r f0 hm => ans_tab (k := K8) rfl ro H _ ⟨x0, x1⟩ r ⟨rfl, f0⟩ hm
theorem an10 {n : Nat} : A10 (tabC T n) (m10 n) := fun ro H x0 r f0 hm => ans_tab (k := K10) rfl ro H _ x0 r ⟨rfl, f0⟩ hm
theorem an14 {n : Nat} : A14 (tabC T n) (m14 n) := fun ro H  r f0 hm => ans_tab (k := K14) rfl ro H _ () r ⟨rfl, f0⟩ hm
theorem an15 {n : Nat} : A15 (tabC T n) (m15 n) := fun ro H x0 x1 r f0 hm => ans_tab (k := K15) rfl ro H _ ⟨x0, x1⟩ r ⟨rfl, f0⟩ hm
theorem an17 {n : Nat} : A17 (tabC T n) (m17 n) := fun ro H x0 r hm => ans_tab (k := K17) rfl ro H _ x0 r rfl hm
theorem an18 {n : Nat} : A18 (tabC T n) (m18 n) := fun ro H x0 r hm => ans_tab (k := K18) rfl ro H _ x0 r rfl hm
theorem an19 {n : Nat} : A19 (tabC T n) (m19 n) := fun ro H x0 x1 r hm => ans_tab (k := K19) rfl ro H _ ⟨x0, x1⟩ r rfl hm
theorem an20 {n : Nat} : A20 (tabC T n) (m20 n) := fun ro H x0 x1 r hm => ans_tab (k := K20) rfl ro H _ ⟨x0, x1⟩ r rfl hm
theorem an21 {n : Nat} : A21 (tabC T n) (m21 n) := fun ro H x0 x1 r hm => ans_tab (k := K21) rfl ro H _ ⟨x0, x1⟩ r rfl hm
theorem an23 {n : Nat} : A23 (tabC T n) (m23 n) := fun ro H x0 r f0 hm => ans_tab (k := K23) rfl ro H _ x0 r ⟨rfl, f0⟩ hm
theorem an25 {n : Nat} : A25 (tabC T n) (m25 n) := fun ro H x0 r hm => ans_tab (k := K25) rfl ro H _ x0 r rfl hm
theorem an26 {n : Nat} : A26 (tabC T n) (m26 n) := fun ro H x0 x1 r hm => ans_tab (k := K26) rfl ro H _ ⟨x0, x1⟩ r rfl hm
theorem an27 {n : Nat} : A27 (tabC T n) (m27 n) := fun ro H x0 r f0 hm => ans_tab (k := K27) rfl ro H _ x0 r ⟨rfl, f0⟩ hm
theorem an36 {n : Nat} : A36 (tabC T n) (m36 n) := fun ro H x0 b0 x1 r f0 f1 hm => ans_tab (k := K36) rfl ro H _ ⟨x0, x1⟩ r ⟨b0, rfl, f0, f1⟩ hm
theorem an37 {n : Nat} : A37 (tabC T n) (m37 n) := fun ro H x0 r hm => ans_tab (k := K37) rfl ro H _ x0 r rfl hm
theorem an38 {n : Nat} : A38 (tabC T n) (m38 n) := fun ro H x0 r hm => ans_tab (k := K38) rfl ro H _ x0 r rfl hm
theorem an39 {n : Nat} : A39 (tabC T n) (m39 n) := fun ro H x0 r hm => ans_tab (k := K39) rfl ro H _ x0 r rfl hm
theorem an40 {n : Nat} : A40 (tabC T n) (m40 n) := fun ro H x0 r hm => ans_tab (k := K40) rfl ro H _ x0 r rfl hm
theorem an45 {n : Nat} : A45 (tabC T n) (m45 n) := fun ro H x0 x1 r hm => ans_tab (k := K45) rfl ro H _ ⟨x0, x1⟩ r rfl hm
theorem an46 {n : Nat} : A46 (tabC T n) (m46 n) := fun ro H x0 r hm => ans_tab (k := K46) rfl ro H _ x0 r rfl hm
theorem an47 {n : Nat} : A47 (tabC T n) (m47 n) := fun ro H x0 r f0 hm => ans_tab (k := K47) rfl ro H _ x0 r ⟨rfl, f0⟩ hm
theorem an48 {n : Nat} : A48 (tabC T n) (m48 n) := fun ro H x0 r hm => ans_tab (k := K48) rfl ro H _ x0 r rfl hm
theorem an49 {n : Nat} : A49 (tabC T n) (m49 n) := fun ro H x0 x1 r hm => ans_tab (k := K49) rfl ro H _ ⟨x0, x1⟩ r rfl hm
theorem an50 {n : Nat} : A50 (tabC T n) (m50 n) := fun ro H x0 x1 r hm => ans_tab (k := K50) rfl ro H _ ⟨x0, x1⟩ r rfl hm
theorem an51 {n : Nat} : A51 (tabC T n) (m51 n) := fun ro H x0 r hm => ans_tab (k := K51) rfl ro H _ x0 r rfl hm
theorem an52 {n : Nat} : A52 (tabC T n) (m52 n) := fun ro H x0 x1 r hm => ans_tab (k := K52) rfl ro H _ ⟨x0, x1⟩ r rfl hm
theorem an53 {n : Nat} : A53 (tabC T n) (m53 n) := fun ro H x0 r hm => ans_tab (k := K53) rfl ro H _ x0 r rfl hm
theorem an58 {n : Nat} : A58 (tabC T n) (m58 n) := fun ro H x0 r f0 hm => ans_tab (k := K58) rfl ro H _ x0 r ⟨rfl, f0⟩ hm
theorem an59 {n : Nat} : A59 (tabC T n) (m59 n) := fun ro H x0 r hm => ans_tab (k := K59) rfl ro H _ x0 r rfl hm
theorem an60 {n : Nat} : A60 (tabC T n) (m60 n) := fun ro H x0 x1 r hm => ans_tab (k := K60) rfl ro H _ ⟨x0, x1⟩ r rfl hm
theorem an61 {n : Nat} : A61 (tabC T n) (m61 n) := fun ro H x0 r hm => ans_tab (k := K61) rfl ro H _ x0 r rfl hm
theorem an62 {n : Nat} : A62 (tabC T n) (m62 n) := fun ro H  r hm => ans_tab (k := K62) rfl ro H _ () r rfl hm
theorem an63 {n : Nat} : A63 (tabC T n) (m63 n) := fun ro H  r hm => ans_tab (k := K63) rfl ro H _ () r rfl hm
theorem an64 {n : Nat} : A64 (tabC T n) (m64 n) := fun ro H  r hm => ans_tab (k := K64) rfl ro H _ () r rfl hm
theorem an65 {n : Nat} : A65 (tabC T n) (m65 n) := fun ro H x0 r hm => ans_tab (k := K65) rfl ro H _ x0 r rfl hm
end Go.Proofs.YtcjnmmeibppblaaDoor
