/-
  THE FLAT STRUCTS OF THIS SEAT: printed by our own ty.py.
-/
import Derived.Test.YtaadjlpfdajggaaGreatDoorFoTypes
import Derived.Test.YtaadjlpfdajggaaGreatDoorAm21
import Derived.Test.YtaadjlpfdajggaaGreatDoorFoMach
set_option maxRecDepth 100000
set_option linter.unusedVariables false
set_option linter.unusedSimpArgs false
namespace Go.Proofs.YtaadjlpfdajggaaGreatDoor
open Go Go.AM
theorem MtP : Mt.P = Tryz.prog := rfl

-- struct, clew/class.Set
structure class_Set where
  f_W : (Arr Int 4)
  deriving DecidableEq, Inhabited
def class_Set.c (x : class_Set) : List Value := (cArr (n := 4) (cInt .u64)) x.f_W
theorem class_Set.enc : Enc class_Set.c 4 where
  len x := by simp only [class_Set.c, List.length_append, ((enc_arr (n := 4) enc_int)).len]
  one x v hv := ((enc_arr (n := 4) enc_int)).one _ v hv
  flat x v hv := ((enc_arr (n := 4) enc_int)).flat _ v hv
  inj a b h := by
    have e0 := ((enc_arr (n := 4) enc_int)).inj _ _ h
    obtain ⟨a0⟩ := a
    obtain ⟨b0⟩ := b
    dsimp only at e0
    subst e0
    rfl
def class_Set.zero : class_Set := ⟨(Arr.rep 4 0)⟩
abbrev class_Set.w0 (x : class_Set) (y : (Arr Int 4)) : class_Set := { x with f_W := y }
theorem class_Set.seg0 (x : class_Set) : Seg (class_Set.c x) 0 ((cArr (n := 4) (cInt .u64)) x.f_W) := Seg.refl
theorem class_Set.wr0 (x : class_Set) (y : (Arr Int 4)) : wrs (class_Set.c x) 0 ((cArr (n := 4) (cInt .u64)) y) = class_Set.c { x with f_W := y } := wrs_all (by unfold class_Set.c; rw [((enc_arr (n := 4) enc_int)).len, ((enc_arr (n := 4) enc_int)).len])
theorem zs24 : zc Mt.P 24 = some (class_Set.c class_Set.zero) := T.zc24
theorem pl24 : plO Tryz.prog 24 = some [(0, 4)] := by kernel_rfl
theorem zs25 : zc Mt.P 25 = some (class_Set.c class_Set.zero) := T.zc25
theorem pl25 : plO Tryz.prog 25 = some [(0, 4)] := by kernel_rfl
theorem fd24_0 : fdO Tryz.prog 24 0 = some (23, 0) := by kernel_rfl
theorem fl24_0 {H : Hp} {x : class_Set} : fldP Mt H 24 0 (vAgg (class_Set.c x)) = some (.val (vAgg ((cArr (n := 4) (cInt .u64)) x.f_W)), H) := fld_agg fd24_0 T.ag23 (by rw [((enc_arr (n := 4) enc_int)).len]; exact T.sz23) (class_Set.seg0 x)
theorem fa24_0 {H : Hp} {b o : Nat} : faP Mt H 24 0 (.pointer (some ⟨b, o, none⟩)) = some (.val (.pointer (some ⟨b, o + 0, none⟩)), H) := fa_ok fd24_0 T.sz23
theorem fd25_0 : fdO Tryz.prog 25 0 = some (23, 0) := by kernel_rfl
theorem fl25_0 {H : Hp} {x : class_Set} : fldP Mt H 25 0 (vAgg (class_Set.c x)) = some (.val (vAgg ((cArr (n := 4) (cInt .u64)) x.f_W)), H) := fld_agg fd25_0 T.ag23 (by rw [((enc_arr (n := 4) enc_int)).len]; exact T.sz23) (class_Set.seg0 x)
theorem fa25_0 {H : Hp} {b o : Nat} : faP Mt H 25 0 (.pointer (some ⟨b, o, none⟩)) = some (.val (.pointer (some ⟨b, o + 0, none⟩)), H) := fa_ok fd25_0 T.sz23

-- struct, clew/lex.Token
structure lex_Token where
  f_Kind : Int
  f_Set : class_Set
  f_Min : Int
  f_Max : Int
  f_Mode : Int
  f_N : Int
  f_Flags : ByteArray
  deriving DecidableEq, Inhabited
def lex_Token.c (x : lex_Token) : List Value := (cInt .i64) x.f_Kind ++ (class_Set.c x.f_Set ++ ((cInt .i64) x.f_Min ++ ((cInt .i64) x.f_Max ++ ((cInt .i64) x.f_Mode ++ ((cInt .i64) x.f_N ++ (cStr x.f_Flags))))))
theorem lex_Token.enc : Enc lex_Token.c 10 where
  len x := by simp only [lex_Token.c, List.length_append, (enc_int).len, (class_Set.enc).len, (enc_str).len]
  one x v hv := by
    simp only [lex_Token.c, List.mem_append] at hv
    rcases hv with hv | hv | hv | hv | hv | hv | hv
    · exact (enc_int).one _ v hv
    · exact (class_Set.enc).one _ v hv
    · exact (enc_int).one _ v hv
    · exact (enc_int).one _ v hv
    · exact (enc_int).one _ v hv
    · exact (enc_int).one _ v hv
    · exact (enc_str).one _ v hv
  flat x v hv := by
    simp only [lex_Token.c, List.mem_append] at hv
    rcases hv with hv | hv | hv | hv | hv | hv | hv
    · exact (enc_int).flat _ v hv
    · exact (class_Set.enc).flat _ v hv
    · exact (enc_int).flat _ v hv
    · exact (enc_int).flat _ v hv
    · exact (enc_int).flat _ v hv
    · exact (enc_int).flat _ v hv
    · exact (enc_str).flat _ v hv
  inj a b h := by
    simp only [lex_Token.c] at h
    obtain ⟨h0, h⟩ := List.append_inj h (by rw [(enc_int).len, (enc_int).len])
    obtain ⟨h1, h⟩ := List.append_inj h (by rw [(class_Set.enc).len, (class_Set.enc).len])
    obtain ⟨h2, h⟩ := List.append_inj h (by rw [(enc_int).len, (enc_int).len])
    obtain ⟨h3, h⟩ := List.append_inj h (by rw [(enc_int).len, (enc_int).len])
    obtain ⟨h4, h⟩ := List.append_inj h (by rw [(enc_int).len, (enc_int).len])
    obtain ⟨h5, h⟩ := List.append_inj h (by rw [(enc_int).len, (enc_int).len])
    have e6 := (enc_str).inj _ _ h
    have e0 := (enc_int).inj _ _ h0
    have e1 := (class_Set.enc).inj _ _ h1
    have e2 := (enc_int).inj _ _ h2
    have e3 := (enc_int).inj _ _ h3
    have e4 := (enc_int).inj _ _ h4
    have e5 := (enc_int).inj _ _ h5
    obtain ⟨a0, a1, a2, a3, a4, a5, a6⟩ := a
    obtain ⟨b0, b1, b2, b3, b4, b5, b6⟩ := b
    dsimp only at e0 e1 e2 e3 e4 e5 e6
    subst e0 e1 e2 e3 e4 e5 e6
    rfl
def lex_Token.zero : lex_Token := ⟨0, class_Set.zero, 0, 0, 0, 0, ⟨#[]⟩⟩
abbrev lex_Token.w0 (x : lex_Token) (y : Int) : lex_Token := { x with f_Kind := y }
theorem lex_Token.seg0 (x : lex_Token) : Seg (lex_Token.c x) 0 ((cInt .i64) x.f_Kind) := seg_begin
theorem lex_Token.wr0 (x : lex_Token) (y : Int) : wrs (lex_Token.c x) 0 ((cInt .i64) y) = lex_Token.c { x with f_Kind := y } := wrs_begin (by rw [(enc_int).len, (enc_int).len])
abbrev lex_Token.w1 (x : lex_Token) (y : class_Set) : lex_Token := { x with f_Set := y }
theorem lex_Token.seg1 (x : lex_Token) : Seg (lex_Token.c x) 1 (class_Set.c x.f_Set) := by
  have h : lex_Token.c x = ((cInt .i64) x.f_Kind) ++ (class_Set.c x.f_Set ++ ((cInt .i64) x.f_Min ++ ((cInt .i64) x.f_Max ++ ((cInt .i64) x.f_Mode ++ ((cInt .i64) x.f_N ++ (cStr x.f_Flags)))))) := by simp only [lex_Token.c, List.append_assoc]
  rw [h]; exact seg_mid (by simp only [List.length_append, (enc_int).len, (class_Set.enc).len, (enc_str).len])
theorem lex_Token.wr1 (x : lex_Token) (y : class_Set) : wrs (lex_Token.c x) 1 (class_Set.c y) = lex_Token.c { x with f_Set := y } := by
  have h : lex_Token.c x = ((cInt .i64) x.f_Kind) ++ (class_Set.c x.f_Set ++ ((cInt .i64) x.f_Min ++ ((cInt .i64) x.f_Max ++ ((cInt .i64) x.f_Mode ++ ((cInt .i64) x.f_N ++ (cStr x.f_Flags)))))) := by simp only [lex_Token.c, List.append_assoc]
  rw [h, wrs_mid (by simp only [List.length_append, (enc_int).len, (class_Set.enc).len, (enc_str).len]) (by rw [(class_Set.enc).len, (class_Set.enc).len])]; simp only [lex_Token.c, List.append_assoc]
abbrev lex_Token.w2 (x : lex_Token) (y : Int) : lex_Token := { x with f_Min := y }
theorem lex_Token.seg2 (x : lex_Token) : Seg (lex_Token.c x) 5 ((cInt .i64) x.f_Min) := by
  have h : lex_Token.c x = (((cInt .i64) x.f_Kind) ++ class_Set.c x.f_Set) ++ ((cInt .i64) x.f_Min ++ ((cInt .i64) x.f_Max ++ ((cInt .i64) x.f_Mode ++ ((cInt .i64) x.f_N ++ (cStr x.f_Flags))))) := by simp only [lex_Token.c, List.append_assoc]
  rw [h]; exact seg_mid (by simp only [List.length_append, (enc_int).len, (class_Set.enc).len, (enc_str).len])
theorem lex_Token.wr2 (x : lex_Token) (y : Int) : wrs (lex_Token.c x) 5 ((cInt .i64) y) = lex_Token.c { x with f_Min := y } := by
  have h : lex_Token.c x = (((cInt .i64) x.f_Kind) ++ class_Set.c x.f_Set) ++ ((cInt .i64) x.f_Min ++ ((cInt .i64) x.f_Max ++ ((cInt .i64) x.f_Mode ++ ((cInt .i64) x.f_N ++ (cStr x.f_Flags))))) := by simp only [lex_Token.c, List.append_assoc]
  rw [h, wrs_mid (by simp only [List.length_append, (enc_int).len, (class_Set.enc).len, (enc_str).len]) (by rw [(enc_int).len, (enc_int).len])]; simp only [lex_Token.c, List.append_assoc]
abbrev lex_Token.w3 (x : lex_Token) (y : Int) : lex_Token := { x with f_Max := y }
theorem lex_Token.seg3 (x : lex_Token) : Seg (lex_Token.c x) 6 ((cInt .i64) x.f_Max) := by
  have h : lex_Token.c x = ((((cInt .i64) x.f_Kind) ++ class_Set.c x.f_Set) ++ (cInt .i64) x.f_Min) ++ ((cInt .i64) x.f_Max ++ ((cInt .i64) x.f_Mode ++ ((cInt .i64) x.f_N ++ (cStr x.f_Flags)))) := by simp only [lex_Token.c, List.append_assoc]
  rw [h]; exact seg_mid (by simp only [List.length_append, (enc_int).len, (class_Set.enc).len, (enc_str).len])
theorem lex_Token.wr3 (x : lex_Token) (y : Int) : wrs (lex_Token.c x) 6 ((cInt .i64) y) = lex_Token.c { x with f_Max := y } := by
  have h : lex_Token.c x = ((((cInt .i64) x.f_Kind) ++ class_Set.c x.f_Set) ++ (cInt .i64) x.f_Min) ++ ((cInt .i64) x.f_Max ++ ((cInt .i64) x.f_Mode ++ ((cInt .i64) x.f_N ++ (cStr x.f_Flags)))) := by simp only [lex_Token.c, List.append_assoc]
  rw [h, wrs_mid (by simp only [List.length_append, (enc_int).len, (class_Set.enc).len, (enc_str).len]) (by rw [(enc_int).len, (enc_int).len])]; simp only [lex_Token.c, List.append_assoc]
abbrev lex_Token.w4 (x : lex_Token) (y : Int) : lex_Token := { x with f_Mode := y }
theorem lex_Token.seg4 (x : lex_Token) : Seg (lex_Token.c x) 7 ((cInt .i64) x.f_Mode) := by
  have h : lex_Token.c x = (((((cInt .i64) x.f_Kind) ++ class_Set.c x.f_Set) ++ (cInt .i64) x.f_Min) ++ (cInt .i64) x.f_Max) ++ ((cInt .i64) x.f_Mode ++ ((cInt .i64) x.f_N ++ (cStr x.f_Flags))) := by simp only [lex_Token.c, List.append_assoc]
  rw [h]; exact seg_mid (by simp only [List.length_append, (enc_int).len, (class_Set.enc).len, (enc_str).len])
theorem lex_Token.wr4 (x : lex_Token) (y : Int) : wrs (lex_Token.c x) 7 ((cInt .i64) y) = lex_Token.c { x with f_Mode := y } := by
  have h : lex_Token.c x = (((((cInt .i64) x.f_Kind) ++ class_Set.c x.f_Set) ++ (cInt .i64) x.f_Min) ++ (cInt .i64) x.f_Max) ++ ((cInt .i64) x.f_Mode ++ ((cInt .i64) x.f_N ++ (cStr x.f_Flags))) := by simp only [lex_Token.c, List.append_assoc]
  rw [h, wrs_mid (by simp only [List.length_append, (enc_int).len, (class_Set.enc).len, (enc_str).len]) (by rw [(enc_int).len, (enc_int).len])]; simp only [lex_Token.c, List.append_assoc]
abbrev lex_Token.w5 (x : lex_Token) (y : Int) : lex_Token := { x with f_N := y }
theorem lex_Token.seg5 (x : lex_Token) : Seg (lex_Token.c x) 8 ((cInt .i64) x.f_N) := by
  have h : lex_Token.c x = ((((((cInt .i64) x.f_Kind) ++ class_Set.c x.f_Set) ++ (cInt .i64) x.f_Min) ++ (cInt .i64) x.f_Max) ++ (cInt .i64) x.f_Mode) ++ ((cInt .i64) x.f_N ++ (cStr x.f_Flags)) := by simp only [lex_Token.c, List.append_assoc]
  rw [h]; exact seg_mid (by simp only [List.length_append, (enc_int).len, (class_Set.enc).len, (enc_str).len])
theorem lex_Token.wr5 (x : lex_Token) (y : Int) : wrs (lex_Token.c x) 8 ((cInt .i64) y) = lex_Token.c { x with f_N := y } := by
  have h : lex_Token.c x = ((((((cInt .i64) x.f_Kind) ++ class_Set.c x.f_Set) ++ (cInt .i64) x.f_Min) ++ (cInt .i64) x.f_Max) ++ (cInt .i64) x.f_Mode) ++ ((cInt .i64) x.f_N ++ (cStr x.f_Flags)) := by simp only [lex_Token.c, List.append_assoc]
  rw [h, wrs_mid (by simp only [List.length_append, (enc_int).len, (class_Set.enc).len, (enc_str).len]) (by rw [(enc_int).len, (enc_int).len])]; simp only [lex_Token.c, List.append_assoc]
abbrev lex_Token.w6 (x : lex_Token) (y : ByteArray) : lex_Token := { x with f_Flags := y }
theorem lex_Token.seg6 (x : lex_Token) : Seg (lex_Token.c x) 9 (cStr x.f_Flags) := by
  have h : lex_Token.c x = (((((((cInt .i64) x.f_Kind) ++ class_Set.c x.f_Set) ++ (cInt .i64) x.f_Min) ++ (cInt .i64) x.f_Max) ++ (cInt .i64) x.f_Mode) ++ (cInt .i64) x.f_N) ++ cStr x.f_Flags := by simp only [lex_Token.c, List.append_assoc]
  rw [h]; exact seg_end (by simp only [List.length_append, (enc_int).len, (class_Set.enc).len, (enc_str).len])
theorem lex_Token.wr6 (x : lex_Token) (y : ByteArray) : wrs (lex_Token.c x) 9 (cStr y) = lex_Token.c { x with f_Flags := y } := by
  have h : lex_Token.c x = (((((((cInt .i64) x.f_Kind) ++ class_Set.c x.f_Set) ++ (cInt .i64) x.f_Min) ++ (cInt .i64) x.f_Max) ++ (cInt .i64) x.f_Mode) ++ (cInt .i64) x.f_N) ++ cStr x.f_Flags := by simp only [lex_Token.c, List.append_assoc]
  rw [h, wrs_end (by simp only [List.length_append, (enc_int).len, (class_Set.enc).len, (enc_str).len]) (by rw [(enc_str).len, (enc_str).len])]; simp only [lex_Token.c, List.append_assoc]
theorem zs32 : zc Mt.P 32 = some (lex_Token.c lex_Token.zero) := T.zc32
theorem pl32 : plO Tryz.prog 32 = some [(0, 1), (1, 4), (5, 1), (6, 1), (7, 1), (8, 1), (9, 1)] := by kernel_rfl
theorem zs33 : zc Mt.P 33 = some (lex_Token.c lex_Token.zero) := T.zc33
theorem pl33 : plO Tryz.prog 33 = some [(0, 1), (1, 4), (5, 1), (6, 1), (7, 1), (8, 1), (9, 1)] := by kernel_rfl
theorem fd32_0 : fdO Tryz.prog 32 0 = some (3, 0) := by kernel_rfl
theorem fl32_0 {H : Hp} {x : lex_Token} : fldP Mt H 32 0 (vAgg (lex_Token.c x)) = some (.val (.int .i64 x.f_Kind), H) := fld_one fd32_0 T.ag3 (lex_Token.seg0 x)
theorem fa32_0 {H : Hp} {b o : Nat} : faP Mt H 32 0 (.pointer (some ⟨b, o, none⟩)) = some (.val (.pointer (some ⟨b, o + 0, none⟩)), H) := fa_ok fd32_0 T.sz3
theorem fd32_1 : fdO Tryz.prog 32 1 = some (25, 1) := by kernel_rfl
theorem fl32_1 {H : Hp} {x : lex_Token} : fldP Mt H 32 1 (vAgg (lex_Token.c x)) = some (.val (vAgg (class_Set.c x.f_Set)), H) := fld_agg fd32_1 T.ag25 (by rw [(class_Set.enc).len]; exact T.sz25) (lex_Token.seg1 x)
theorem fa32_1 {H : Hp} {b o : Nat} : faP Mt H 32 1 (.pointer (some ⟨b, o, none⟩)) = some (.val (.pointer (some ⟨b, o + 1, none⟩)), H) := fa_ok fd32_1 T.sz25
theorem fd32_2 : fdO Tryz.prog 32 2 = some (3, 5) := by kernel_rfl
theorem fl32_2 {H : Hp} {x : lex_Token} : fldP Mt H 32 2 (vAgg (lex_Token.c x)) = some (.val (.int .i64 x.f_Min), H) := fld_one fd32_2 T.ag3 (lex_Token.seg2 x)
theorem fa32_2 {H : Hp} {b o : Nat} : faP Mt H 32 2 (.pointer (some ⟨b, o, none⟩)) = some (.val (.pointer (some ⟨b, o + 5, none⟩)), H) := fa_ok fd32_2 T.sz3
theorem fd32_3 : fdO Tryz.prog 32 3 = some (3, 6) := by kernel_rfl
theorem fl32_3 {H : Hp} {x : lex_Token} : fldP Mt H 32 3 (vAgg (lex_Token.c x)) = some (.val (.int .i64 x.f_Max), H) := fld_one fd32_3 T.ag3 (lex_Token.seg3 x)
theorem fa32_3 {H : Hp} {b o : Nat} : faP Mt H 32 3 (.pointer (some ⟨b, o, none⟩)) = some (.val (.pointer (some ⟨b, o + 6, none⟩)), H) := fa_ok fd32_3 T.sz3
theorem fd32_4 : fdO Tryz.prog 32 4 = some (3, 7) := by kernel_rfl
theorem fl32_4 {H : Hp} {x : lex_Token} : fldP Mt H 32 4 (vAgg (lex_Token.c x)) = some (.val (.int .i64 x.f_Mode), H) := fld_one fd32_4 T.ag3 (lex_Token.seg4 x)
theorem fa32_4 {H : Hp} {b o : Nat} : faP Mt H 32 4 (.pointer (some ⟨b, o, none⟩)) = some (.val (.pointer (some ⟨b, o + 7, none⟩)), H) := fa_ok fd32_4 T.sz3
theorem fd32_5 : fdO Tryz.prog 32 5 = some (3, 8) := by kernel_rfl
theorem fl32_5 {H : Hp} {x : lex_Token} : fldP Mt H 32 5 (vAgg (lex_Token.c x)) = some (.val (.int .i64 x.f_N), H) := fld_one fd32_5 T.ag3 (lex_Token.seg5 x)
theorem fa32_5 {H : Hp} {b o : Nat} : faP Mt H 32 5 (.pointer (some ⟨b, o, none⟩)) = some (.val (.pointer (some ⟨b, o + 8, none⟩)), H) := fa_ok fd32_5 T.sz3
theorem fd32_6 : fdO Tryz.prog 32 6 = some (9, 9) := by kernel_rfl
theorem fl32_6 {H : Hp} {x : lex_Token} : fldP Mt H 32 6 (vAgg (lex_Token.c x)) = some (.val (.string x.f_Flags), H) := fld_one fd32_6 T.ag9 (lex_Token.seg6 x)
theorem fa32_6 {H : Hp} {b o : Nat} : faP Mt H 32 6 (.pointer (some ⟨b, o, none⟩)) = some (.val (.pointer (some ⟨b, o + 9, none⟩)), H) := fa_ok fd32_6 T.sz9
theorem fd33_0 : fdO Tryz.prog 33 0 = some (3, 0) := by kernel_rfl
theorem fl33_0 {H : Hp} {x : lex_Token} : fldP Mt H 33 0 (vAgg (lex_Token.c x)) = some (.val (.int .i64 x.f_Kind), H) := fld_one fd33_0 T.ag3 (lex_Token.seg0 x)
theorem fa33_0 {H : Hp} {b o : Nat} : faP Mt H 33 0 (.pointer (some ⟨b, o, none⟩)) = some (.val (.pointer (some ⟨b, o + 0, none⟩)), H) := fa_ok fd33_0 T.sz3
theorem fd33_1 : fdO Tryz.prog 33 1 = some (25, 1) := by kernel_rfl
theorem fl33_1 {H : Hp} {x : lex_Token} : fldP Mt H 33 1 (vAgg (lex_Token.c x)) = some (.val (vAgg (class_Set.c x.f_Set)), H) := fld_agg fd33_1 T.ag25 (by rw [(class_Set.enc).len]; exact T.sz25) (lex_Token.seg1 x)
theorem fa33_1 {H : Hp} {b o : Nat} : faP Mt H 33 1 (.pointer (some ⟨b, o, none⟩)) = some (.val (.pointer (some ⟨b, o + 1, none⟩)), H) := fa_ok fd33_1 T.sz25
theorem fd33_2 : fdO Tryz.prog 33 2 = some (3, 5) := by kernel_rfl
theorem fl33_2 {H : Hp} {x : lex_Token} : fldP Mt H 33 2 (vAgg (lex_Token.c x)) = some (.val (.int .i64 x.f_Min), H) := fld_one fd33_2 T.ag3 (lex_Token.seg2 x)
theorem fa33_2 {H : Hp} {b o : Nat} : faP Mt H 33 2 (.pointer (some ⟨b, o, none⟩)) = some (.val (.pointer (some ⟨b, o + 5, none⟩)), H) := fa_ok fd33_2 T.sz3
theorem fd33_3 : fdO Tryz.prog 33 3 = some (3, 6) := by kernel_rfl
theorem fl33_3 {H : Hp} {x : lex_Token} : fldP Mt H 33 3 (vAgg (lex_Token.c x)) = some (.val (.int .i64 x.f_Max), H) := fld_one fd33_3 T.ag3 (lex_Token.seg3 x)
theorem fa33_3 {H : Hp} {b o : Nat} : faP Mt H 33 3 (.pointer (some ⟨b, o, none⟩)) = some (.val (.pointer (some ⟨b, o + 6, none⟩)), H) := fa_ok fd33_3 T.sz3
theorem fd33_4 : fdO Tryz.prog 33 4 = some (3, 7) := by kernel_rfl
theorem fl33_4 {H : Hp} {x : lex_Token} : fldP Mt H 33 4 (vAgg (lex_Token.c x)) = some (.val (.int .i64 x.f_Mode), H) := fld_one fd33_4 T.ag3 (lex_Token.seg4 x)
theorem fa33_4 {H : Hp} {b o : Nat} : faP Mt H 33 4 (.pointer (some ⟨b, o, none⟩)) = some (.val (.pointer (some ⟨b, o + 7, none⟩)), H) := fa_ok fd33_4 T.sz3
theorem fd33_5 : fdO Tryz.prog 33 5 = some (3, 8) := by kernel_rfl
theorem fl33_5 {H : Hp} {x : lex_Token} : fldP Mt H 33 5 (vAgg (lex_Token.c x)) = some (.val (.int .i64 x.f_N), H) := fld_one fd33_5 T.ag3 (lex_Token.seg5 x)
theorem fa33_5 {H : Hp} {b o : Nat} : faP Mt H 33 5 (.pointer (some ⟨b, o, none⟩)) = some (.val (.pointer (some ⟨b, o + 8, none⟩)), H) := fa_ok fd33_5 T.sz3
theorem fd33_6 : fdO Tryz.prog 33 6 = some (9, 9) := by kernel_rfl
theorem fl33_6 {H : Hp} {x : lex_Token} : fldP Mt H 33 6 (vAgg (lex_Token.c x)) = some (.val (.string x.f_Flags), H) := fld_one fd33_6 T.ag9 (lex_Token.seg6 x)
theorem fa33_6 {H : Hp} {b o : Nat} : faP Mt H 33 6 (.pointer (some ⟨b, o, none⟩)) = some (.val (.pointer (some ⟨b, o + 9, none⟩)), H) := fa_ok fd33_6 T.sz9

-- struct, clew/limit.Budget
structure limit_Budget where
  f_Steps : Nat
  f_Room : Nat
  deriving DecidableEq, Inhabited
def limit_Budget.c (x : limit_Budget) : List Value := cFlt x.f_Steps ++ (cFlt x.f_Room)
theorem limit_Budget.enc : Enc limit_Budget.c 2 where
  len x := by simp only [limit_Budget.c, List.length_append, (enc_flt).len]
  one x v hv := by
    simp only [limit_Budget.c, List.mem_append] at hv
    rcases hv with hv | hv
    · exact (enc_flt).one _ v hv
    · exact (enc_flt).one _ v hv
  flat x v hv := by
    simp only [limit_Budget.c, List.mem_append] at hv
    rcases hv with hv | hv
    · exact (enc_flt).flat _ v hv
    · exact (enc_flt).flat _ v hv
  inj a b h := by
    simp only [limit_Budget.c] at h
    obtain ⟨h0, h⟩ := List.append_inj h (by rw [(enc_flt).len, (enc_flt).len])
    have e1 := (enc_flt).inj _ _ h
    have e0 := (enc_flt).inj _ _ h0
    obtain ⟨a0, a1⟩ := a
    obtain ⟨b0, b1⟩ := b
    dsimp only at e0 e1
    subst e0 e1
    rfl
def limit_Budget.zero : limit_Budget := ⟨0, 0⟩
abbrev limit_Budget.w0 (x : limit_Budget) (y : Nat) : limit_Budget := { x with f_Steps := y }
theorem limit_Budget.seg0 (x : limit_Budget) : Seg (limit_Budget.c x) 0 (cFlt x.f_Steps) := seg_begin
theorem limit_Budget.wr0 (x : limit_Budget) (y : Nat) : wrs (limit_Budget.c x) 0 (cFlt y) = limit_Budget.c { x with f_Steps := y } := wrs_begin (by rw [(enc_flt).len, (enc_flt).len])
abbrev limit_Budget.w1 (x : limit_Budget) (y : Nat) : limit_Budget := { x with f_Room := y }
theorem limit_Budget.seg1 (x : limit_Budget) : Seg (limit_Budget.c x) 1 (cFlt x.f_Room) := by
  have h : limit_Budget.c x = (cFlt x.f_Steps) ++ cFlt x.f_Room := by simp only [limit_Budget.c, List.append_assoc]
  rw [h]; exact seg_end (by simp only [List.length_append, (enc_flt).len])
theorem limit_Budget.wr1 (x : limit_Budget) (y : Nat) : wrs (limit_Budget.c x) 1 (cFlt y) = limit_Budget.c { x with f_Room := y } := by
  have h : limit_Budget.c x = (cFlt x.f_Steps) ++ cFlt x.f_Room := by simp only [limit_Budget.c, List.append_assoc]
  rw [h, wrs_end (by simp only [List.length_append, (enc_flt).len]) (by rw [(enc_flt).len, (enc_flt).len])]; simp only [limit_Budget.c, List.append_assoc]
theorem zs48 : zc Mt.P 48 = some (limit_Budget.c limit_Budget.zero) := by kernel_rfl
theorem pl48 : plO Tryz.prog 48 = some [(0, 1), (1, 1)] := by kernel_rfl
theorem zs49 : zc Mt.P 49 = some (limit_Budget.c limit_Budget.zero) := by kernel_rfl
theorem pl49 : plO Tryz.prog 49 = some [(0, 1), (1, 1)] := by kernel_rfl
theorem fd48_0 : fdO Tryz.prog 48 0 = some (44, 0) := by kernel_rfl
theorem fl48_0 {H : Hp} {x : limit_Budget} : fldP Mt H 48 0 (vAgg (limit_Budget.c x)) = some (.val (.float .f64 x.f_Steps), H) := fld_one fd48_0 T.ag44 (limit_Budget.seg0 x)
theorem fa48_0 {H : Hp} {b o : Nat} : faP Mt H 48 0 (.pointer (some ⟨b, o, none⟩)) = some (.val (.pointer (some ⟨b, o + 0, none⟩)), H) := fa_ok fd48_0 T.sz44
theorem fd48_1 : fdO Tryz.prog 48 1 = some (44, 1) := by kernel_rfl
theorem fl48_1 {H : Hp} {x : limit_Budget} : fldP Mt H 48 1 (vAgg (limit_Budget.c x)) = some (.val (.float .f64 x.f_Room), H) := fld_one fd48_1 T.ag44 (limit_Budget.seg1 x)
theorem fa48_1 {H : Hp} {b o : Nat} : faP Mt H 48 1 (.pointer (some ⟨b, o, none⟩)) = some (.val (.pointer (some ⟨b, o + 1, none⟩)), H) := fa_ok fd48_1 T.sz44
theorem fd49_0 : fdO Tryz.prog 49 0 = some (44, 0) := by kernel_rfl
theorem fl49_0 {H : Hp} {x : limit_Budget} : fldP Mt H 49 0 (vAgg (limit_Budget.c x)) = some (.val (.float .f64 x.f_Steps), H) := fld_one fd49_0 T.ag44 (limit_Budget.seg0 x)
theorem fa49_0 {H : Hp} {b o : Nat} : faP Mt H 49 0 (.pointer (some ⟨b, o, none⟩)) = some (.val (.pointer (some ⟨b, o + 0, none⟩)), H) := fa_ok fd49_0 T.sz44
theorem fd49_1 : fdO Tryz.prog 49 1 = some (44, 1) := by kernel_rfl
theorem fl49_1 {H : Hp} {x : limit_Budget} : fldP Mt H 49 1 (vAgg (limit_Budget.c x)) = some (.val (.float .f64 x.f_Room), H) := fld_one fd49_1 T.ag44 (limit_Budget.seg1 x)
theorem fa49_1 {H : Hp} {b o : Nat} : faP Mt H 49 1 (.pointer (some ⟨b, o, none⟩)) = some (.val (.pointer (some ⟨b, o + 1, none⟩)), H) := fa_ok fd49_1 T.sz44

-- struct, clew/facts.Facts
structure facts_Facts where
  f_First : class_Set
  f_Open : Bool
  f_Fast : Bool
  f_Prefix : ByteArray
  deriving DecidableEq, Inhabited
def facts_Facts.c (x : facts_Facts) : List Value := class_Set.c x.f_First ++ (cBool x.f_Open ++ (cBool x.f_Fast ++ (cStr x.f_Prefix)))
theorem facts_Facts.enc : Enc facts_Facts.c 7 where
  len x := by simp only [facts_Facts.c, List.length_append, (class_Set.enc).len, (enc_bool).len, (enc_str).len]
  one x v hv := by
    simp only [facts_Facts.c, List.mem_append] at hv
    rcases hv with hv | hv | hv | hv
    · exact (class_Set.enc).one _ v hv
    · exact (enc_bool).one _ v hv
    · exact (enc_bool).one _ v hv
    · exact (enc_str).one _ v hv
  flat x v hv := by
    simp only [facts_Facts.c, List.mem_append] at hv
    rcases hv with hv | hv | hv | hv
    · exact (class_Set.enc).flat _ v hv
    · exact (enc_bool).flat _ v hv
    · exact (enc_bool).flat _ v hv
    · exact (enc_str).flat _ v hv
  inj a b h := by
    simp only [facts_Facts.c] at h
    obtain ⟨h0, h⟩ := List.append_inj h (by rw [(class_Set.enc).len, (class_Set.enc).len])
    obtain ⟨h1, h⟩ := List.append_inj h (by rw [(enc_bool).len, (enc_bool).len])
    obtain ⟨h2, h⟩ := List.append_inj h (by rw [(enc_bool).len, (enc_bool).len])
    have e3 := (enc_str).inj _ _ h
    have e0 := (class_Set.enc).inj _ _ h0
    have e1 := (enc_bool).inj _ _ h1
    have e2 := (enc_bool).inj _ _ h2
    obtain ⟨a0, a1, a2, a3⟩ := a
    obtain ⟨b0, b1, b2, b3⟩ := b
    dsimp only at e0 e1 e2 e3
    subst e0 e1 e2 e3
    rfl
def facts_Facts.zero : facts_Facts := ⟨class_Set.zero, false, false, ⟨#[]⟩⟩
abbrev facts_Facts.w0 (x : facts_Facts) (y : class_Set) : facts_Facts := { x with f_First := y }
theorem facts_Facts.seg0 (x : facts_Facts) : Seg (facts_Facts.c x) 0 (class_Set.c x.f_First) := seg_begin
theorem facts_Facts.wr0 (x : facts_Facts) (y : class_Set) : wrs (facts_Facts.c x) 0 (class_Set.c y) = facts_Facts.c { x with f_First := y } := wrs_begin (by rw [(class_Set.enc).len, (class_Set.enc).len])
abbrev facts_Facts.w1 (x : facts_Facts) (y : Bool) : facts_Facts := { x with f_Open := y }
theorem facts_Facts.seg1 (x : facts_Facts) : Seg (facts_Facts.c x) 4 (cBool x.f_Open) := by
  have h : facts_Facts.c x = (class_Set.c x.f_First) ++ (cBool x.f_Open ++ (cBool x.f_Fast ++ (cStr x.f_Prefix))) := by simp only [facts_Facts.c, List.append_assoc]
  rw [h]; exact seg_mid (by simp only [List.length_append, (class_Set.enc).len, (enc_bool).len, (enc_str).len])
theorem facts_Facts.wr1 (x : facts_Facts) (y : Bool) : wrs (facts_Facts.c x) 4 (cBool y) = facts_Facts.c { x with f_Open := y } := by
  have h : facts_Facts.c x = (class_Set.c x.f_First) ++ (cBool x.f_Open ++ (cBool x.f_Fast ++ (cStr x.f_Prefix))) := by simp only [facts_Facts.c, List.append_assoc]
  rw [h, wrs_mid (by simp only [List.length_append, (class_Set.enc).len, (enc_bool).len, (enc_str).len]) (by rw [(enc_bool).len, (enc_bool).len])]; simp only [facts_Facts.c, List.append_assoc]
abbrev facts_Facts.w2 (x : facts_Facts) (y : Bool) : facts_Facts := { x with f_Fast := y }
theorem facts_Facts.seg2 (x : facts_Facts) : Seg (facts_Facts.c x) 5 (cBool x.f_Fast) := by
  have h : facts_Facts.c x = ((class_Set.c x.f_First) ++ cBool x.f_Open) ++ (cBool x.f_Fast ++ (cStr x.f_Prefix)) := by simp only [facts_Facts.c, List.append_assoc]
  rw [h]; exact seg_mid (by simp only [List.length_append, (class_Set.enc).len, (enc_bool).len, (enc_str).len])
theorem facts_Facts.wr2 (x : facts_Facts) (y : Bool) : wrs (facts_Facts.c x) 5 (cBool y) = facts_Facts.c { x with f_Fast := y } := by
  have h : facts_Facts.c x = ((class_Set.c x.f_First) ++ cBool x.f_Open) ++ (cBool x.f_Fast ++ (cStr x.f_Prefix)) := by simp only [facts_Facts.c, List.append_assoc]
  rw [h, wrs_mid (by simp only [List.length_append, (class_Set.enc).len, (enc_bool).len, (enc_str).len]) (by rw [(enc_bool).len, (enc_bool).len])]; simp only [facts_Facts.c, List.append_assoc]
abbrev facts_Facts.w3 (x : facts_Facts) (y : ByteArray) : facts_Facts := { x with f_Prefix := y }
theorem facts_Facts.seg3 (x : facts_Facts) : Seg (facts_Facts.c x) 6 (cStr x.f_Prefix) := by
  have h : facts_Facts.c x = (((class_Set.c x.f_First) ++ cBool x.f_Open) ++ cBool x.f_Fast) ++ cStr x.f_Prefix := by simp only [facts_Facts.c, List.append_assoc]
  rw [h]; exact seg_end (by simp only [List.length_append, (class_Set.enc).len, (enc_bool).len, (enc_str).len])
theorem facts_Facts.wr3 (x : facts_Facts) (y : ByteArray) : wrs (facts_Facts.c x) 6 (cStr y) = facts_Facts.c { x with f_Prefix := y } := by
  have h : facts_Facts.c x = (((class_Set.c x.f_First) ++ cBool x.f_Open) ++ cBool x.f_Fast) ++ cStr x.f_Prefix := by simp only [facts_Facts.c, List.append_assoc]
  rw [h, wrs_end (by simp only [List.length_append, (class_Set.enc).len, (enc_bool).len, (enc_str).len]) (by rw [(enc_str).len, (enc_str).len])]; simp only [facts_Facts.c, List.append_assoc]
theorem zs53 : zc Mt.P 53 = some (facts_Facts.c facts_Facts.zero) := T.zc53
theorem pl53 : plO Tryz.prog 53 = some [(0, 4), (4, 1), (5, 1), (6, 1)] := by kernel_rfl
theorem zs54 : zc Mt.P 54 = some (facts_Facts.c facts_Facts.zero) := T.zc54
theorem pl54 : plO Tryz.prog 54 = some [(0, 4), (4, 1), (5, 1), (6, 1)] := by kernel_rfl
theorem fd53_0 : fdO Tryz.prog 53 0 = some (25, 0) := by kernel_rfl
theorem fl53_0 {H : Hp} {x : facts_Facts} : fldP Mt H 53 0 (vAgg (facts_Facts.c x)) = some (.val (vAgg (class_Set.c x.f_First)), H) := fld_agg fd53_0 T.ag25 (by rw [(class_Set.enc).len]; exact T.sz25) (facts_Facts.seg0 x)
theorem fa53_0 {H : Hp} {b o : Nat} : faP Mt H 53 0 (.pointer (some ⟨b, o, none⟩)) = some (.val (.pointer (some ⟨b, o + 0, none⟩)), H) := fa_ok fd53_0 T.sz25
theorem fd53_1 : fdO Tryz.prog 53 1 = some (4, 4) := by kernel_rfl
theorem fl53_1 {H : Hp} {x : facts_Facts} : fldP Mt H 53 1 (vAgg (facts_Facts.c x)) = some (.val (.bool x.f_Open), H) := fld_one fd53_1 T.ag4 (facts_Facts.seg1 x)
theorem fa53_1 {H : Hp} {b o : Nat} : faP Mt H 53 1 (.pointer (some ⟨b, o, none⟩)) = some (.val (.pointer (some ⟨b, o + 4, none⟩)), H) := fa_ok fd53_1 T.sz4
theorem fd53_2 : fdO Tryz.prog 53 2 = some (4, 5) := by kernel_rfl
theorem fl53_2 {H : Hp} {x : facts_Facts} : fldP Mt H 53 2 (vAgg (facts_Facts.c x)) = some (.val (.bool x.f_Fast), H) := fld_one fd53_2 T.ag4 (facts_Facts.seg2 x)
theorem fa53_2 {H : Hp} {b o : Nat} : faP Mt H 53 2 (.pointer (some ⟨b, o, none⟩)) = some (.val (.pointer (some ⟨b, o + 5, none⟩)), H) := fa_ok fd53_2 T.sz4
theorem fd53_3 : fdO Tryz.prog 53 3 = some (9, 6) := by kernel_rfl
theorem fl53_3 {H : Hp} {x : facts_Facts} : fldP Mt H 53 3 (vAgg (facts_Facts.c x)) = some (.val (.string x.f_Prefix), H) := fld_one fd53_3 T.ag9 (facts_Facts.seg3 x)
theorem fa53_3 {H : Hp} {b o : Nat} : faP Mt H 53 3 (.pointer (some ⟨b, o, none⟩)) = some (.val (.pointer (some ⟨b, o + 6, none⟩)), H) := fa_ok fd53_3 T.sz9
theorem fd54_0 : fdO Tryz.prog 54 0 = some (25, 0) := by kernel_rfl
theorem fl54_0 {H : Hp} {x : facts_Facts} : fldP Mt H 54 0 (vAgg (facts_Facts.c x)) = some (.val (vAgg (class_Set.c x.f_First)), H) := fld_agg fd54_0 T.ag25 (by rw [(class_Set.enc).len]; exact T.sz25) (facts_Facts.seg0 x)
theorem fa54_0 {H : Hp} {b o : Nat} : faP Mt H 54 0 (.pointer (some ⟨b, o, none⟩)) = some (.val (.pointer (some ⟨b, o + 0, none⟩)), H) := fa_ok fd54_0 T.sz25
theorem fd54_1 : fdO Tryz.prog 54 1 = some (4, 4) := by kernel_rfl
theorem fl54_1 {H : Hp} {x : facts_Facts} : fldP Mt H 54 1 (vAgg (facts_Facts.c x)) = some (.val (.bool x.f_Open), H) := fld_one fd54_1 T.ag4 (facts_Facts.seg1 x)
theorem fa54_1 {H : Hp} {b o : Nat} : faP Mt H 54 1 (.pointer (some ⟨b, o, none⟩)) = some (.val (.pointer (some ⟨b, o + 4, none⟩)), H) := fa_ok fd54_1 T.sz4
theorem fd54_2 : fdO Tryz.prog 54 2 = some (4, 5) := by kernel_rfl
theorem fl54_2 {H : Hp} {x : facts_Facts} : fldP Mt H 54 2 (vAgg (facts_Facts.c x)) = some (.val (.bool x.f_Fast), H) := fld_one fd54_2 T.ag4 (facts_Facts.seg2 x)
theorem fa54_2 {H : Hp} {b o : Nat} : faP Mt H 54 2 (.pointer (some ⟨b, o, none⟩)) = some (.val (.pointer (some ⟨b, o + 5, none⟩)), H) := fa_ok fd54_2 T.sz4
theorem fd54_3 : fdO Tryz.prog 54 3 = some (9, 6) := by kernel_rfl
theorem fl54_3 {H : Hp} {x : facts_Facts} : fldP Mt H 54 3 (vAgg (facts_Facts.c x)) = some (.val (.string x.f_Prefix), H) := fld_one fd54_3 T.ag9 (facts_Facts.seg3 x)
theorem fa54_3 {H : Hp} {b o : Nat} : faP Mt H 54 3 (.pointer (some ⟨b, o, none⟩)) = some (.val (.pointer (some ⟨b, o + 6, none⟩)), H) := fa_ok fd54_3 T.sz9

-- struct, clew/clewref01.Set
structure ref01_Set where
  f_In : (Arr Bool 256)
  deriving DecidableEq, Inhabited
def ref01_Set.c (x : ref01_Set) : List Value := (cArr (n := 256) cBool) x.f_In
theorem ref01_Set.enc : Enc ref01_Set.c 256 where
  len x := by simp only [ref01_Set.c, List.length_append, ((enc_arr (n := 256) enc_bool)).len]
  one x v hv := ((enc_arr (n := 256) enc_bool)).one _ v hv
  flat x v hv := ((enc_arr (n := 256) enc_bool)).flat _ v hv
  inj a b h := by
    have e0 := ((enc_arr (n := 256) enc_bool)).inj _ _ h
    obtain ⟨a0⟩ := a
    obtain ⟨b0⟩ := b
    dsimp only at e0
    subst e0
    rfl
def ref01_Set.zero : ref01_Set := ⟨(Arr.rep 256 false)⟩
abbrev ref01_Set.w0 (x : ref01_Set) (y : (Arr Bool 256)) : ref01_Set := { x with f_In := y }
theorem ref01_Set.seg0 (x : ref01_Set) : Seg (ref01_Set.c x) 0 ((cArr (n := 256) cBool) x.f_In) := Seg.refl
theorem ref01_Set.wr0 (x : ref01_Set) (y : (Arr Bool 256)) : wrs (ref01_Set.c x) 0 ((cArr (n := 256) cBool) y) = ref01_Set.c { x with f_In := y } := wrs_all (by unfold ref01_Set.c; rw [((enc_arr (n := 256) enc_bool)).len, ((enc_arr (n := 256) enc_bool)).len])
theorem zs58 : zc Mt.P 58 = some (ref01_Set.c ref01_Set.zero) := by kernel_rfl
theorem pl58 : plO Tryz.prog 58 = some [(0, 256)] := by kernel_rfl
theorem zs59 : zc Mt.P 59 = some (ref01_Set.c ref01_Set.zero) := by kernel_rfl
theorem pl59 : plO Tryz.prog 59 = some [(0, 256)] := by kernel_rfl
theorem fd58_0 : fdO Tryz.prog 58 0 = some (57, 0) := by kernel_rfl
theorem fl58_0 {H : Hp} {x : ref01_Set} : fldP Mt H 58 0 (vAgg (ref01_Set.c x)) = some (.val (vAgg ((cArr (n := 256) cBool) x.f_In)), H) := fld_agg fd58_0 T.ag57 (by rw [((enc_arr (n := 256) enc_bool)).len]; exact T.sz57) (ref01_Set.seg0 x)
theorem fa58_0 {H : Hp} {b o : Nat} : faP Mt H 58 0 (.pointer (some ⟨b, o, none⟩)) = some (.val (.pointer (some ⟨b, o + 0, none⟩)), H) := fa_ok fd58_0 T.sz57
theorem fd59_0 : fdO Tryz.prog 59 0 = some (57, 0) := by kernel_rfl
theorem fl59_0 {H : Hp} {x : ref01_Set} : fldP Mt H 59 0 (vAgg (ref01_Set.c x)) = some (.val (vAgg ((cArr (n := 256) cBool) x.f_In)), H) := fld_agg fd59_0 T.ag57 (by rw [((enc_arr (n := 256) enc_bool)).len]; exact T.sz57) (ref01_Set.seg0 x)
theorem fa59_0 {H : Hp} {b o : Nat} : faP Mt H 59 0 (.pointer (some ⟨b, o, none⟩)) = some (.val (.pointer (some ⟨b, o + 0, none⟩)), H) := fa_ok fd59_0 T.sz57

-- struct, clew/clewref09.Facts
structure ref09_Facts where
  f_First : ref01_Set
  f_Open : Bool
  f_Fast : Bool
  f_Prefix : ByteArray
  deriving DecidableEq, Inhabited
def ref09_Facts.c (x : ref09_Facts) : List Value := ref01_Set.c x.f_First ++ (cBool x.f_Open ++ (cBool x.f_Fast ++ (cStr x.f_Prefix)))
theorem ref09_Facts.enc : Enc ref09_Facts.c 259 where
  len x := by simp only [ref09_Facts.c, List.length_append, (ref01_Set.enc).len, (enc_bool).len, (enc_str).len]
  one x v hv := by
    simp only [ref09_Facts.c, List.mem_append] at hv
    rcases hv with hv | hv | hv | hv
    · exact (ref01_Set.enc).one _ v hv
    · exact (enc_bool).one _ v hv
    · exact (enc_bool).one _ v hv
    · exact (enc_str).one _ v hv
  flat x v hv := by
    simp only [ref09_Facts.c, List.mem_append] at hv
    rcases hv with hv | hv | hv | hv
    · exact (ref01_Set.enc).flat _ v hv
    · exact (enc_bool).flat _ v hv
    · exact (enc_bool).flat _ v hv
    · exact (enc_str).flat _ v hv
  inj a b h := by
    simp only [ref09_Facts.c] at h
    obtain ⟨h0, h⟩ := List.append_inj h (by rw [(ref01_Set.enc).len, (ref01_Set.enc).len])
    obtain ⟨h1, h⟩ := List.append_inj h (by rw [(enc_bool).len, (enc_bool).len])
    obtain ⟨h2, h⟩ := List.append_inj h (by rw [(enc_bool).len, (enc_bool).len])
    have e3 := (enc_str).inj _ _ h
    have e0 := (ref01_Set.enc).inj _ _ h0
    have e1 := (enc_bool).inj _ _ h1
    have e2 := (enc_bool).inj _ _ h2
    obtain ⟨a0, a1, a2, a3⟩ := a
    obtain ⟨b0, b1, b2, b3⟩ := b
    dsimp only at e0 e1 e2 e3
    subst e0 e1 e2 e3
    rfl
def ref09_Facts.zero : ref09_Facts := ⟨ref01_Set.zero, false, false, ⟨#[]⟩⟩
abbrev ref09_Facts.w0 (x : ref09_Facts) (y : ref01_Set) : ref09_Facts := { x with f_First := y }
theorem ref09_Facts.seg0 (x : ref09_Facts) : Seg (ref09_Facts.c x) 0 (ref01_Set.c x.f_First) := seg_begin
theorem ref09_Facts.wr0 (x : ref09_Facts) (y : ref01_Set) : wrs (ref09_Facts.c x) 0 (ref01_Set.c y) = ref09_Facts.c { x with f_First := y } := wrs_begin (by rw [(ref01_Set.enc).len, (ref01_Set.enc).len])
abbrev ref09_Facts.w1 (x : ref09_Facts) (y : Bool) : ref09_Facts := { x with f_Open := y }
theorem ref09_Facts.seg1 (x : ref09_Facts) : Seg (ref09_Facts.c x) 256 (cBool x.f_Open) := by
  have h : ref09_Facts.c x = (ref01_Set.c x.f_First) ++ (cBool x.f_Open ++ (cBool x.f_Fast ++ (cStr x.f_Prefix))) := by simp only [ref09_Facts.c, List.append_assoc]
  rw [h]; exact seg_mid (by simp only [List.length_append, (ref01_Set.enc).len, (enc_bool).len, (enc_str).len])
theorem ref09_Facts.wr1 (x : ref09_Facts) (y : Bool) : wrs (ref09_Facts.c x) 256 (cBool y) = ref09_Facts.c { x with f_Open := y } := by
  have h : ref09_Facts.c x = (ref01_Set.c x.f_First) ++ (cBool x.f_Open ++ (cBool x.f_Fast ++ (cStr x.f_Prefix))) := by simp only [ref09_Facts.c, List.append_assoc]
  rw [h, wrs_mid (by simp only [List.length_append, (ref01_Set.enc).len, (enc_bool).len, (enc_str).len]) (by rw [(enc_bool).len, (enc_bool).len])]; simp only [ref09_Facts.c, List.append_assoc]
abbrev ref09_Facts.w2 (x : ref09_Facts) (y : Bool) : ref09_Facts := { x with f_Fast := y }
theorem ref09_Facts.seg2 (x : ref09_Facts) : Seg (ref09_Facts.c x) 257 (cBool x.f_Fast) := by
  have h : ref09_Facts.c x = ((ref01_Set.c x.f_First) ++ cBool x.f_Open) ++ (cBool x.f_Fast ++ (cStr x.f_Prefix)) := by simp only [ref09_Facts.c, List.append_assoc]
  rw [h]; exact seg_mid (by simp only [List.length_append, (ref01_Set.enc).len, (enc_bool).len, (enc_str).len])
theorem ref09_Facts.wr2 (x : ref09_Facts) (y : Bool) : wrs (ref09_Facts.c x) 257 (cBool y) = ref09_Facts.c { x with f_Fast := y } := by
  have h : ref09_Facts.c x = ((ref01_Set.c x.f_First) ++ cBool x.f_Open) ++ (cBool x.f_Fast ++ (cStr x.f_Prefix)) := by simp only [ref09_Facts.c, List.append_assoc]
  rw [h, wrs_mid (by simp only [List.length_append, (ref01_Set.enc).len, (enc_bool).len, (enc_str).len]) (by rw [(enc_bool).len, (enc_bool).len])]; simp only [ref09_Facts.c, List.append_assoc]
abbrev ref09_Facts.w3 (x : ref09_Facts) (y : ByteArray) : ref09_Facts := { x with f_Prefix := y }
theorem ref09_Facts.seg3 (x : ref09_Facts) : Seg (ref09_Facts.c x) 258 (cStr x.f_Prefix) := by
  have h : ref09_Facts.c x = (((ref01_Set.c x.f_First) ++ cBool x.f_Open) ++ cBool x.f_Fast) ++ cStr x.f_Prefix := by simp only [ref09_Facts.c, List.append_assoc]
  rw [h]; exact seg_end (by simp only [List.length_append, (ref01_Set.enc).len, (enc_bool).len, (enc_str).len])
theorem ref09_Facts.wr3 (x : ref09_Facts) (y : ByteArray) : wrs (ref09_Facts.c x) 258 (cStr y) = ref09_Facts.c { x with f_Prefix := y } := by
  have h : ref09_Facts.c x = (((ref01_Set.c x.f_First) ++ cBool x.f_Open) ++ cBool x.f_Fast) ++ cStr x.f_Prefix := by simp only [ref09_Facts.c, List.append_assoc]
  rw [h, wrs_end (by simp only [List.length_append, (ref01_Set.enc).len, (enc_bool).len, (enc_str).len]) (by rw [(enc_str).len, (enc_str).len])]; simp only [ref09_Facts.c, List.append_assoc]
theorem zs60 : zc Mt.P 60 = some (ref09_Facts.c ref09_Facts.zero) := by kernel_rfl
theorem pl60 : plO Tryz.prog 60 = some [(0, 256), (256, 1), (257, 1), (258, 1)] := by kernel_rfl
theorem zs61 : zc Mt.P 61 = some (ref09_Facts.c ref09_Facts.zero) := by kernel_rfl
theorem pl61 : plO Tryz.prog 61 = some [(0, 256), (256, 1), (257, 1), (258, 1)] := by kernel_rfl
theorem fd60_0 : fdO Tryz.prog 60 0 = some (59, 0) := by kernel_rfl
theorem fl60_0 {H : Hp} {x : ref09_Facts} : fldP Mt H 60 0 (vAgg (ref09_Facts.c x)) = some (.val (vAgg (ref01_Set.c x.f_First)), H) := fld_agg fd60_0 T.ag59 (by rw [(ref01_Set.enc).len]; exact T.sz59) (ref09_Facts.seg0 x)
theorem fa60_0 {H : Hp} {b o : Nat} : faP Mt H 60 0 (.pointer (some ⟨b, o, none⟩)) = some (.val (.pointer (some ⟨b, o + 0, none⟩)), H) := fa_ok fd60_0 T.sz59
theorem fd60_1 : fdO Tryz.prog 60 1 = some (4, 256) := by kernel_rfl
theorem fl60_1 {H : Hp} {x : ref09_Facts} : fldP Mt H 60 1 (vAgg (ref09_Facts.c x)) = some (.val (.bool x.f_Open), H) := fld_one fd60_1 T.ag4 (ref09_Facts.seg1 x)
theorem fa60_1 {H : Hp} {b o : Nat} : faP Mt H 60 1 (.pointer (some ⟨b, o, none⟩)) = some (.val (.pointer (some ⟨b, o + 256, none⟩)), H) := fa_ok fd60_1 T.sz4
theorem fd60_2 : fdO Tryz.prog 60 2 = some (4, 257) := by kernel_rfl
theorem fl60_2 {H : Hp} {x : ref09_Facts} : fldP Mt H 60 2 (vAgg (ref09_Facts.c x)) = some (.val (.bool x.f_Fast), H) := fld_one fd60_2 T.ag4 (ref09_Facts.seg2 x)
theorem fa60_2 {H : Hp} {b o : Nat} : faP Mt H 60 2 (.pointer (some ⟨b, o, none⟩)) = some (.val (.pointer (some ⟨b, o + 257, none⟩)), H) := fa_ok fd60_2 T.sz4
theorem fd60_3 : fdO Tryz.prog 60 3 = some (9, 258) := by kernel_rfl
theorem fl60_3 {H : Hp} {x : ref09_Facts} : fldP Mt H 60 3 (vAgg (ref09_Facts.c x)) = some (.val (.string x.f_Prefix), H) := fld_one fd60_3 T.ag9 (ref09_Facts.seg3 x)
theorem fa60_3 {H : Hp} {b o : Nat} : faP Mt H 60 3 (.pointer (some ⟨b, o, none⟩)) = some (.val (.pointer (some ⟨b, o + 258, none⟩)), H) := fa_ok fd60_3 T.sz9
theorem fd61_0 : fdO Tryz.prog 61 0 = some (59, 0) := by kernel_rfl
theorem fl61_0 {H : Hp} {x : ref09_Facts} : fldP Mt H 61 0 (vAgg (ref09_Facts.c x)) = some (.val (vAgg (ref01_Set.c x.f_First)), H) := fld_agg fd61_0 T.ag59 (by rw [(ref01_Set.enc).len]; exact T.sz59) (ref09_Facts.seg0 x)
theorem fa61_0 {H : Hp} {b o : Nat} : faP Mt H 61 0 (.pointer (some ⟨b, o, none⟩)) = some (.val (.pointer (some ⟨b, o + 0, none⟩)), H) := fa_ok fd61_0 T.sz59
theorem fd61_1 : fdO Tryz.prog 61 1 = some (4, 256) := by kernel_rfl
theorem fl61_1 {H : Hp} {x : ref09_Facts} : fldP Mt H 61 1 (vAgg (ref09_Facts.c x)) = some (.val (.bool x.f_Open), H) := fld_one fd61_1 T.ag4 (ref09_Facts.seg1 x)
theorem fa61_1 {H : Hp} {b o : Nat} : faP Mt H 61 1 (.pointer (some ⟨b, o, none⟩)) = some (.val (.pointer (some ⟨b, o + 256, none⟩)), H) := fa_ok fd61_1 T.sz4
theorem fd61_2 : fdO Tryz.prog 61 2 = some (4, 257) := by kernel_rfl
theorem fl61_2 {H : Hp} {x : ref09_Facts} : fldP Mt H 61 2 (vAgg (ref09_Facts.c x)) = some (.val (.bool x.f_Fast), H) := fld_one fd61_2 T.ag4 (ref09_Facts.seg2 x)
theorem fa61_2 {H : Hp} {b o : Nat} : faP Mt H 61 2 (.pointer (some ⟨b, o, none⟩)) = some (.val (.pointer (some ⟨b, o + 257, none⟩)), H) := fa_ok fd61_2 T.sz4
theorem fd61_3 : fdO Tryz.prog 61 3 = some (9, 258) := by kernel_rfl
theorem fl61_3 {H : Hp} {x : ref09_Facts} : fldP Mt H 61 3 (vAgg (ref09_Facts.c x)) = some (.val (.string x.f_Prefix), H) := fld_one fd61_3 T.ag9 (ref09_Facts.seg3 x)
theorem fa61_3 {H : Hp} {b o : Nat} : faP Mt H 61 3 (.pointer (some ⟨b, o, none⟩)) = some (.val (.pointer (some ⟨b, o + 258, none⟩)), H) := fa_ok fd61_3 T.sz9

-- struct, clew/ast.Node
structure ast_Node where
  f_Kind : Int
  f_A : Int
  f_B : Int
  f_Set : class_Set
  f_Min : Int
  f_Max : Int
  f_Mode : Int
  f_N : Int
  f_Fold : Bool
  deriving DecidableEq, Inhabited
def ast_Node.c (x : ast_Node) : List Value := (cInt .i64) x.f_Kind ++ ((cInt .i64) x.f_A ++ ((cInt .i64) x.f_B ++ (class_Set.c x.f_Set ++ ((cInt .i64) x.f_Min ++ ((cInt .i64) x.f_Max ++ ((cInt .i64) x.f_Mode ++ ((cInt .i64) x.f_N ++ (cBool x.f_Fold))))))))
theorem ast_Node.enc : Enc ast_Node.c 12 where
  len x := by simp only [ast_Node.c, List.length_append, (enc_int).len, (class_Set.enc).len, (enc_bool).len]
  one x v hv := by
    simp only [ast_Node.c, List.mem_append] at hv
    rcases hv with hv | hv | hv | hv | hv | hv | hv | hv | hv
    · exact (enc_int).one _ v hv
    · exact (enc_int).one _ v hv
    · exact (enc_int).one _ v hv
    · exact (class_Set.enc).one _ v hv
    · exact (enc_int).one _ v hv
    · exact (enc_int).one _ v hv
    · exact (enc_int).one _ v hv
    · exact (enc_int).one _ v hv
    · exact (enc_bool).one _ v hv
  flat x v hv := by
    simp only [ast_Node.c, List.mem_append] at hv
    rcases hv with hv | hv | hv | hv | hv | hv | hv | hv | hv
    · exact (enc_int).flat _ v hv
    · exact (enc_int).flat _ v hv
    · exact (enc_int).flat _ v hv
    · exact (class_Set.enc).flat _ v hv
    · exact (enc_int).flat _ v hv
    · exact (enc_int).flat _ v hv
    · exact (enc_int).flat _ v hv
    · exact (enc_int).flat _ v hv
    · exact (enc_bool).flat _ v hv
  inj a b h := by
    simp only [ast_Node.c] at h
    obtain ⟨h0, h⟩ := List.append_inj h (by rw [(enc_int).len, (enc_int).len])
    obtain ⟨h1, h⟩ := List.append_inj h (by rw [(enc_int).len, (enc_int).len])
    obtain ⟨h2, h⟩ := List.append_inj h (by rw [(enc_int).len, (enc_int).len])
    obtain ⟨h3, h⟩ := List.append_inj h (by rw [(class_Set.enc).len, (class_Set.enc).len])
    obtain ⟨h4, h⟩ := List.append_inj h (by rw [(enc_int).len, (enc_int).len])
    obtain ⟨h5, h⟩ := List.append_inj h (by rw [(enc_int).len, (enc_int).len])
    obtain ⟨h6, h⟩ := List.append_inj h (by rw [(enc_int).len, (enc_int).len])
    obtain ⟨h7, h⟩ := List.append_inj h (by rw [(enc_int).len, (enc_int).len])
    have e8 := (enc_bool).inj _ _ h
    have e0 := (enc_int).inj _ _ h0
    have e1 := (enc_int).inj _ _ h1
    have e2 := (enc_int).inj _ _ h2
    have e3 := (class_Set.enc).inj _ _ h3
    have e4 := (enc_int).inj _ _ h4
    have e5 := (enc_int).inj _ _ h5
    have e6 := (enc_int).inj _ _ h6
    have e7 := (enc_int).inj _ _ h7
    obtain ⟨a0, a1, a2, a3, a4, a5, a6, a7, a8⟩ := a
    obtain ⟨b0, b1, b2, b3, b4, b5, b6, b7, b8⟩ := b
    dsimp only at e0 e1 e2 e3 e4 e5 e6 e7 e8
    subst e0 e1 e2 e3 e4 e5 e6 e7 e8
    rfl
def ast_Node.zero : ast_Node := ⟨0, 0, 0, class_Set.zero, 0, 0, 0, 0, false⟩
abbrev ast_Node.w0 (x : ast_Node) (y : Int) : ast_Node := { x with f_Kind := y }
theorem ast_Node.seg0 (x : ast_Node) : Seg (ast_Node.c x) 0 ((cInt .i64) x.f_Kind) := seg_begin
theorem ast_Node.wr0 (x : ast_Node) (y : Int) : wrs (ast_Node.c x) 0 ((cInt .i64) y) = ast_Node.c { x with f_Kind := y } := wrs_begin (by rw [(enc_int).len, (enc_int).len])
abbrev ast_Node.w1 (x : ast_Node) (y : Int) : ast_Node := { x with f_A := y }
theorem ast_Node.seg1 (x : ast_Node) : Seg (ast_Node.c x) 1 ((cInt .i64) x.f_A) := by
  have h : ast_Node.c x = ((cInt .i64) x.f_Kind) ++ ((cInt .i64) x.f_A ++ ((cInt .i64) x.f_B ++ (class_Set.c x.f_Set ++ ((cInt .i64) x.f_Min ++ ((cInt .i64) x.f_Max ++ ((cInt .i64) x.f_Mode ++ ((cInt .i64) x.f_N ++ (cBool x.f_Fold)))))))) := by simp only [ast_Node.c, List.append_assoc]
  rw [h]; exact seg_mid (by simp only [List.length_append, (enc_int).len, (class_Set.enc).len, (enc_bool).len])
theorem ast_Node.wr1 (x : ast_Node) (y : Int) : wrs (ast_Node.c x) 1 ((cInt .i64) y) = ast_Node.c { x with f_A := y } := by
  have h : ast_Node.c x = ((cInt .i64) x.f_Kind) ++ ((cInt .i64) x.f_A ++ ((cInt .i64) x.f_B ++ (class_Set.c x.f_Set ++ ((cInt .i64) x.f_Min ++ ((cInt .i64) x.f_Max ++ ((cInt .i64) x.f_Mode ++ ((cInt .i64) x.f_N ++ (cBool x.f_Fold)))))))) := by simp only [ast_Node.c, List.append_assoc]
  rw [h, wrs_mid (by simp only [List.length_append, (enc_int).len, (class_Set.enc).len, (enc_bool).len]) (by rw [(enc_int).len, (enc_int).len])]; simp only [ast_Node.c, List.append_assoc]
abbrev ast_Node.w2 (x : ast_Node) (y : Int) : ast_Node := { x with f_B := y }
theorem ast_Node.seg2 (x : ast_Node) : Seg (ast_Node.c x) 2 ((cInt .i64) x.f_B) := by
  have h : ast_Node.c x = (((cInt .i64) x.f_Kind) ++ (cInt .i64) x.f_A) ++ ((cInt .i64) x.f_B ++ (class_Set.c x.f_Set ++ ((cInt .i64) x.f_Min ++ ((cInt .i64) x.f_Max ++ ((cInt .i64) x.f_Mode ++ ((cInt .i64) x.f_N ++ (cBool x.f_Fold))))))) := by simp only [ast_Node.c, List.append_assoc]
  rw [h]; exact seg_mid (by simp only [List.length_append, (enc_int).len, (class_Set.enc).len, (enc_bool).len])
theorem ast_Node.wr2 (x : ast_Node) (y : Int) : wrs (ast_Node.c x) 2 ((cInt .i64) y) = ast_Node.c { x with f_B := y } := by
  have h : ast_Node.c x = (((cInt .i64) x.f_Kind) ++ (cInt .i64) x.f_A) ++ ((cInt .i64) x.f_B ++ (class_Set.c x.f_Set ++ ((cInt .i64) x.f_Min ++ ((cInt .i64) x.f_Max ++ ((cInt .i64) x.f_Mode ++ ((cInt .i64) x.f_N ++ (cBool x.f_Fold))))))) := by simp only [ast_Node.c, List.append_assoc]
  rw [h, wrs_mid (by simp only [List.length_append, (enc_int).len, (class_Set.enc).len, (enc_bool).len]) (by rw [(enc_int).len, (enc_int).len])]; simp only [ast_Node.c, List.append_assoc]
abbrev ast_Node.w3 (x : ast_Node) (y : class_Set) : ast_Node := { x with f_Set := y }
theorem ast_Node.seg3 (x : ast_Node) : Seg (ast_Node.c x) 3 (class_Set.c x.f_Set) := by
  have h : ast_Node.c x = ((((cInt .i64) x.f_Kind) ++ (cInt .i64) x.f_A) ++ (cInt .i64) x.f_B) ++ (class_Set.c x.f_Set ++ ((cInt .i64) x.f_Min ++ ((cInt .i64) x.f_Max ++ ((cInt .i64) x.f_Mode ++ ((cInt .i64) x.f_N ++ (cBool x.f_Fold)))))) := by simp only [ast_Node.c, List.append_assoc]
  rw [h]; exact seg_mid (by simp only [List.length_append, (enc_int).len, (class_Set.enc).len, (enc_bool).len])
theorem ast_Node.wr3 (x : ast_Node) (y : class_Set) : wrs (ast_Node.c x) 3 (class_Set.c y) = ast_Node.c { x with f_Set := y } := by
  have h : ast_Node.c x = ((((cInt .i64) x.f_Kind) ++ (cInt .i64) x.f_A) ++ (cInt .i64) x.f_B) ++ (class_Set.c x.f_Set ++ ((cInt .i64) x.f_Min ++ ((cInt .i64) x.f_Max ++ ((cInt .i64) x.f_Mode ++ ((cInt .i64) x.f_N ++ (cBool x.f_Fold)))))) := by simp only [ast_Node.c, List.append_assoc]
  rw [h, wrs_mid (by simp only [List.length_append, (enc_int).len, (class_Set.enc).len, (enc_bool).len]) (by rw [(class_Set.enc).len, (class_Set.enc).len])]; simp only [ast_Node.c, List.append_assoc]
abbrev ast_Node.w4 (x : ast_Node) (y : Int) : ast_Node := { x with f_Min := y }
theorem ast_Node.seg4 (x : ast_Node) : Seg (ast_Node.c x) 7 ((cInt .i64) x.f_Min) := by
  have h : ast_Node.c x = (((((cInt .i64) x.f_Kind) ++ (cInt .i64) x.f_A) ++ (cInt .i64) x.f_B) ++ class_Set.c x.f_Set) ++ ((cInt .i64) x.f_Min ++ ((cInt .i64) x.f_Max ++ ((cInt .i64) x.f_Mode ++ ((cInt .i64) x.f_N ++ (cBool x.f_Fold))))) := by simp only [ast_Node.c, List.append_assoc]
  rw [h]; exact seg_mid (by simp only [List.length_append, (enc_int).len, (class_Set.enc).len, (enc_bool).len])
theorem ast_Node.wr4 (x : ast_Node) (y : Int) : wrs (ast_Node.c x) 7 ((cInt .i64) y) = ast_Node.c { x with f_Min := y } := by
  have h : ast_Node.c x = (((((cInt .i64) x.f_Kind) ++ (cInt .i64) x.f_A) ++ (cInt .i64) x.f_B) ++ class_Set.c x.f_Set) ++ ((cInt .i64) x.f_Min ++ ((cInt .i64) x.f_Max ++ ((cInt .i64) x.f_Mode ++ ((cInt .i64) x.f_N ++ (cBool x.f_Fold))))) := by simp only [ast_Node.c, List.append_assoc]
  rw [h, wrs_mid (by simp only [List.length_append, (enc_int).len, (class_Set.enc).len, (enc_bool).len]) (by rw [(enc_int).len, (enc_int).len])]; simp only [ast_Node.c, List.append_assoc]
abbrev ast_Node.w5 (x : ast_Node) (y : Int) : ast_Node := { x with f_Max := y }
theorem ast_Node.seg5 (x : ast_Node) : Seg (ast_Node.c x) 8 ((cInt .i64) x.f_Max) := by
  have h : ast_Node.c x = ((((((cInt .i64) x.f_Kind) ++ (cInt .i64) x.f_A) ++ (cInt .i64) x.f_B) ++ class_Set.c x.f_Set) ++ (cInt .i64) x.f_Min) ++ ((cInt .i64) x.f_Max ++ ((cInt .i64) x.f_Mode ++ ((cInt .i64) x.f_N ++ (cBool x.f_Fold)))) := by simp only [ast_Node.c, List.append_assoc]
  rw [h]; exact seg_mid (by simp only [List.length_append, (enc_int).len, (class_Set.enc).len, (enc_bool).len])
theorem ast_Node.wr5 (x : ast_Node) (y : Int) : wrs (ast_Node.c x) 8 ((cInt .i64) y) = ast_Node.c { x with f_Max := y } := by
  have h : ast_Node.c x = ((((((cInt .i64) x.f_Kind) ++ (cInt .i64) x.f_A) ++ (cInt .i64) x.f_B) ++ class_Set.c x.f_Set) ++ (cInt .i64) x.f_Min) ++ ((cInt .i64) x.f_Max ++ ((cInt .i64) x.f_Mode ++ ((cInt .i64) x.f_N ++ (cBool x.f_Fold)))) := by simp only [ast_Node.c, List.append_assoc]
  rw [h, wrs_mid (by simp only [List.length_append, (enc_int).len, (class_Set.enc).len, (enc_bool).len]) (by rw [(enc_int).len, (enc_int).len])]; simp only [ast_Node.c, List.append_assoc]
abbrev ast_Node.w6 (x : ast_Node) (y : Int) : ast_Node := { x with f_Mode := y }
theorem ast_Node.seg6 (x : ast_Node) : Seg (ast_Node.c x) 9 ((cInt .i64) x.f_Mode) := by
  have h : ast_Node.c x = (((((((cInt .i64) x.f_Kind) ++ (cInt .i64) x.f_A) ++ (cInt .i64) x.f_B) ++ class_Set.c x.f_Set) ++ (cInt .i64) x.f_Min) ++ (cInt .i64) x.f_Max) ++ ((cInt .i64) x.f_Mode ++ ((cInt .i64) x.f_N ++ (cBool x.f_Fold))) := by simp only [ast_Node.c, List.append_assoc]
  rw [h]; exact seg_mid (by simp only [List.length_append, (enc_int).len, (class_Set.enc).len, (enc_bool).len])
theorem ast_Node.wr6 (x : ast_Node) (y : Int) : wrs (ast_Node.c x) 9 ((cInt .i64) y) = ast_Node.c { x with f_Mode := y } := by
  have h : ast_Node.c x = (((((((cInt .i64) x.f_Kind) ++ (cInt .i64) x.f_A) ++ (cInt .i64) x.f_B) ++ class_Set.c x.f_Set) ++ (cInt .i64) x.f_Min) ++ (cInt .i64) x.f_Max) ++ ((cInt .i64) x.f_Mode ++ ((cInt .i64) x.f_N ++ (cBool x.f_Fold))) := by simp only [ast_Node.c, List.append_assoc]
  rw [h, wrs_mid (by simp only [List.length_append, (enc_int).len, (class_Set.enc).len, (enc_bool).len]) (by rw [(enc_int).len, (enc_int).len])]; simp only [ast_Node.c, List.append_assoc]
abbrev ast_Node.w7 (x : ast_Node) (y : Int) : ast_Node := { x with f_N := y }
theorem ast_Node.seg7 (x : ast_Node) : Seg (ast_Node.c x) 10 ((cInt .i64) x.f_N) := by
  have h : ast_Node.c x = ((((((((cInt .i64) x.f_Kind) ++ (cInt .i64) x.f_A) ++ (cInt .i64) x.f_B) ++ class_Set.c x.f_Set) ++ (cInt .i64) x.f_Min) ++ (cInt .i64) x.f_Max) ++ (cInt .i64) x.f_Mode) ++ ((cInt .i64) x.f_N ++ (cBool x.f_Fold)) := by simp only [ast_Node.c, List.append_assoc]
  rw [h]; exact seg_mid (by simp only [List.length_append, (enc_int).len, (class_Set.enc).len, (enc_bool).len])
theorem ast_Node.wr7 (x : ast_Node) (y : Int) : wrs (ast_Node.c x) 10 ((cInt .i64) y) = ast_Node.c { x with f_N := y } := by
  have h : ast_Node.c x = ((((((((cInt .i64) x.f_Kind) ++ (cInt .i64) x.f_A) ++ (cInt .i64) x.f_B) ++ class_Set.c x.f_Set) ++ (cInt .i64) x.f_Min) ++ (cInt .i64) x.f_Max) ++ (cInt .i64) x.f_Mode) ++ ((cInt .i64) x.f_N ++ (cBool x.f_Fold)) := by simp only [ast_Node.c, List.append_assoc]
  rw [h, wrs_mid (by simp only [List.length_append, (enc_int).len, (class_Set.enc).len, (enc_bool).len]) (by rw [(enc_int).len, (enc_int).len])]; simp only [ast_Node.c, List.append_assoc]
abbrev ast_Node.w8 (x : ast_Node) (y : Bool) : ast_Node := { x with f_Fold := y }
theorem ast_Node.seg8 (x : ast_Node) : Seg (ast_Node.c x) 11 (cBool x.f_Fold) := by
  have h : ast_Node.c x = (((((((((cInt .i64) x.f_Kind) ++ (cInt .i64) x.f_A) ++ (cInt .i64) x.f_B) ++ class_Set.c x.f_Set) ++ (cInt .i64) x.f_Min) ++ (cInt .i64) x.f_Max) ++ (cInt .i64) x.f_Mode) ++ (cInt .i64) x.f_N) ++ cBool x.f_Fold := by simp only [ast_Node.c, List.append_assoc]
  rw [h]; exact seg_end (by simp only [List.length_append, (enc_int).len, (class_Set.enc).len, (enc_bool).len])
theorem ast_Node.wr8 (x : ast_Node) (y : Bool) : wrs (ast_Node.c x) 11 (cBool y) = ast_Node.c { x with f_Fold := y } := by
  have h : ast_Node.c x = (((((((((cInt .i64) x.f_Kind) ++ (cInt .i64) x.f_A) ++ (cInt .i64) x.f_B) ++ class_Set.c x.f_Set) ++ (cInt .i64) x.f_Min) ++ (cInt .i64) x.f_Max) ++ (cInt .i64) x.f_Mode) ++ (cInt .i64) x.f_N) ++ cBool x.f_Fold := by simp only [ast_Node.c, List.append_assoc]
  rw [h, wrs_end (by simp only [List.length_append, (enc_int).len, (class_Set.enc).len, (enc_bool).len]) (by rw [(enc_bool).len, (enc_bool).len])]; simp only [ast_Node.c, List.append_assoc]
theorem zs71 : zc Mt.P 71 = some (ast_Node.c ast_Node.zero) := T.zc71
theorem pl71 : plO Tryz.prog 71 = some [(0, 1), (1, 1), (2, 1), (3, 4), (7, 1), (8, 1), (9, 1), (10, 1), (11, 1)] := by kernel_rfl
theorem zs72 : zc Mt.P 72 = some (ast_Node.c ast_Node.zero) := T.zc72
theorem pl72 : plO Tryz.prog 72 = some [(0, 1), (1, 1), (2, 1), (3, 4), (7, 1), (8, 1), (9, 1), (10, 1), (11, 1)] := by kernel_rfl
theorem fd71_0 : fdO Tryz.prog 71 0 = some (3, 0) := by kernel_rfl
theorem fl71_0 {H : Hp} {x : ast_Node} : fldP Mt H 71 0 (vAgg (ast_Node.c x)) = some (.val (.int .i64 x.f_Kind), H) := fld_one fd71_0 T.ag3 (ast_Node.seg0 x)
theorem fa71_0 {H : Hp} {b o : Nat} : faP Mt H 71 0 (.pointer (some ⟨b, o, none⟩)) = some (.val (.pointer (some ⟨b, o + 0, none⟩)), H) := fa_ok fd71_0 T.sz3
theorem fd71_1 : fdO Tryz.prog 71 1 = some (3, 1) := by kernel_rfl
theorem fl71_1 {H : Hp} {x : ast_Node} : fldP Mt H 71 1 (vAgg (ast_Node.c x)) = some (.val (.int .i64 x.f_A), H) := fld_one fd71_1 T.ag3 (ast_Node.seg1 x)
theorem fa71_1 {H : Hp} {b o : Nat} : faP Mt H 71 1 (.pointer (some ⟨b, o, none⟩)) = some (.val (.pointer (some ⟨b, o + 1, none⟩)), H) := fa_ok fd71_1 T.sz3
theorem fd71_2 : fdO Tryz.prog 71 2 = some (3, 2) := by kernel_rfl
theorem fl71_2 {H : Hp} {x : ast_Node} : fldP Mt H 71 2 (vAgg (ast_Node.c x)) = some (.val (.int .i64 x.f_B), H) := fld_one fd71_2 T.ag3 (ast_Node.seg2 x)
theorem fa71_2 {H : Hp} {b o : Nat} : faP Mt H 71 2 (.pointer (some ⟨b, o, none⟩)) = some (.val (.pointer (some ⟨b, o + 2, none⟩)), H) := fa_ok fd71_2 T.sz3
theorem fd71_3 : fdO Tryz.prog 71 3 = some (25, 3) := by kernel_rfl
theorem fl71_3 {H : Hp} {x : ast_Node} : fldP Mt H 71 3 (vAgg (ast_Node.c x)) = some (.val (vAgg (class_Set.c x.f_Set)), H) := fld_agg fd71_3 T.ag25 (by rw [(class_Set.enc).len]; exact T.sz25) (ast_Node.seg3 x)
theorem fa71_3 {H : Hp} {b o : Nat} : faP Mt H 71 3 (.pointer (some ⟨b, o, none⟩)) = some (.val (.pointer (some ⟨b, o + 3, none⟩)), H) := fa_ok fd71_3 T.sz25
theorem fd71_4 : fdO Tryz.prog 71 4 = some (3, 7) := by kernel_rfl
theorem fl71_4 {H : Hp} {x : ast_Node} : fldP Mt H 71 4 (vAgg (ast_Node.c x)) = some (.val (.int .i64 x.f_Min), H) := fld_one fd71_4 T.ag3 (ast_Node.seg4 x)
theorem fa71_4 {H : Hp} {b o : Nat} : faP Mt H 71 4 (.pointer (some ⟨b, o, none⟩)) = some (.val (.pointer (some ⟨b, o + 7, none⟩)), H) := fa_ok fd71_4 T.sz3
theorem fd71_5 : fdO Tryz.prog 71 5 = some (3, 8) := by kernel_rfl
theorem fl71_5 {H : Hp} {x : ast_Node} : fldP Mt H 71 5 (vAgg (ast_Node.c x)) = some (.val (.int .i64 x.f_Max), H) := fld_one fd71_5 T.ag3 (ast_Node.seg5 x)
theorem fa71_5 {H : Hp} {b o : Nat} : faP Mt H 71 5 (.pointer (some ⟨b, o, none⟩)) = some (.val (.pointer (some ⟨b, o + 8, none⟩)), H) := fa_ok fd71_5 T.sz3
theorem fd71_6 : fdO Tryz.prog 71 6 = some (3, 9) := by kernel_rfl
theorem fl71_6 {H : Hp} {x : ast_Node} : fldP Mt H 71 6 (vAgg (ast_Node.c x)) = some (.val (.int .i64 x.f_Mode), H) := fld_one fd71_6 T.ag3 (ast_Node.seg6 x)
theorem fa71_6 {H : Hp} {b o : Nat} : faP Mt H 71 6 (.pointer (some ⟨b, o, none⟩)) = some (.val (.pointer (some ⟨b, o + 9, none⟩)), H) := fa_ok fd71_6 T.sz3
theorem fd71_7 : fdO Tryz.prog 71 7 = some (3, 10) := by kernel_rfl
theorem fl71_7 {H : Hp} {x : ast_Node} : fldP Mt H 71 7 (vAgg (ast_Node.c x)) = some (.val (.int .i64 x.f_N), H) := fld_one fd71_7 T.ag3 (ast_Node.seg7 x)
theorem fa71_7 {H : Hp} {b o : Nat} : faP Mt H 71 7 (.pointer (some ⟨b, o, none⟩)) = some (.val (.pointer (some ⟨b, o + 10, none⟩)), H) := fa_ok fd71_7 T.sz3
theorem fd71_8 : fdO Tryz.prog 71 8 = some (4, 11) := by kernel_rfl
theorem fl71_8 {H : Hp} {x : ast_Node} : fldP Mt H 71 8 (vAgg (ast_Node.c x)) = some (.val (.bool x.f_Fold), H) := fld_one fd71_8 T.ag4 (ast_Node.seg8 x)
theorem fa71_8 {H : Hp} {b o : Nat} : faP Mt H 71 8 (.pointer (some ⟨b, o, none⟩)) = some (.val (.pointer (some ⟨b, o + 11, none⟩)), H) := fa_ok fd71_8 T.sz4
theorem fd72_0 : fdO Tryz.prog 72 0 = some (3, 0) := by kernel_rfl
theorem fl72_0 {H : Hp} {x : ast_Node} : fldP Mt H 72 0 (vAgg (ast_Node.c x)) = some (.val (.int .i64 x.f_Kind), H) := fld_one fd72_0 T.ag3 (ast_Node.seg0 x)
theorem fa72_0 {H : Hp} {b o : Nat} : faP Mt H 72 0 (.pointer (some ⟨b, o, none⟩)) = some (.val (.pointer (some ⟨b, o + 0, none⟩)), H) := fa_ok fd72_0 T.sz3
theorem fd72_1 : fdO Tryz.prog 72 1 = some (3, 1) := by kernel_rfl
theorem fl72_1 {H : Hp} {x : ast_Node} : fldP Mt H 72 1 (vAgg (ast_Node.c x)) = some (.val (.int .i64 x.f_A), H) := fld_one fd72_1 T.ag3 (ast_Node.seg1 x)
theorem fa72_1 {H : Hp} {b o : Nat} : faP Mt H 72 1 (.pointer (some ⟨b, o, none⟩)) = some (.val (.pointer (some ⟨b, o + 1, none⟩)), H) := fa_ok fd72_1 T.sz3
theorem fd72_2 : fdO Tryz.prog 72 2 = some (3, 2) := by kernel_rfl
theorem fl72_2 {H : Hp} {x : ast_Node} : fldP Mt H 72 2 (vAgg (ast_Node.c x)) = some (.val (.int .i64 x.f_B), H) := fld_one fd72_2 T.ag3 (ast_Node.seg2 x)
theorem fa72_2 {H : Hp} {b o : Nat} : faP Mt H 72 2 (.pointer (some ⟨b, o, none⟩)) = some (.val (.pointer (some ⟨b, o + 2, none⟩)), H) := fa_ok fd72_2 T.sz3
theorem fd72_3 : fdO Tryz.prog 72 3 = some (25, 3) := by kernel_rfl
theorem fl72_3 {H : Hp} {x : ast_Node} : fldP Mt H 72 3 (vAgg (ast_Node.c x)) = some (.val (vAgg (class_Set.c x.f_Set)), H) := fld_agg fd72_3 T.ag25 (by rw [(class_Set.enc).len]; exact T.sz25) (ast_Node.seg3 x)
theorem fa72_3 {H : Hp} {b o : Nat} : faP Mt H 72 3 (.pointer (some ⟨b, o, none⟩)) = some (.val (.pointer (some ⟨b, o + 3, none⟩)), H) := fa_ok fd72_3 T.sz25
theorem fd72_4 : fdO Tryz.prog 72 4 = some (3, 7) := by kernel_rfl
theorem fl72_4 {H : Hp} {x : ast_Node} : fldP Mt H 72 4 (vAgg (ast_Node.c x)) = some (.val (.int .i64 x.f_Min), H) := fld_one fd72_4 T.ag3 (ast_Node.seg4 x)
theorem fa72_4 {H : Hp} {b o : Nat} : faP Mt H 72 4 (.pointer (some ⟨b, o, none⟩)) = some (.val (.pointer (some ⟨b, o + 7, none⟩)), H) := fa_ok fd72_4 T.sz3
theorem fd72_5 : fdO Tryz.prog 72 5 = some (3, 8) := by kernel_rfl
theorem fl72_5 {H : Hp} {x : ast_Node} : fldP Mt H 72 5 (vAgg (ast_Node.c x)) = some (.val (.int .i64 x.f_Max), H) := fld_one fd72_5 T.ag3 (ast_Node.seg5 x)
theorem fa72_5 {H : Hp} {b o : Nat} : faP Mt H 72 5 (.pointer (some ⟨b, o, none⟩)) = some (.val (.pointer (some ⟨b, o + 8, none⟩)), H) := fa_ok fd72_5 T.sz3
theorem fd72_6 : fdO Tryz.prog 72 6 = some (3, 9) := by kernel_rfl
theorem fl72_6 {H : Hp} {x : ast_Node} : fldP Mt H 72 6 (vAgg (ast_Node.c x)) = some (.val (.int .i64 x.f_Mode), H) := fld_one fd72_6 T.ag3 (ast_Node.seg6 x)
theorem fa72_6 {H : Hp} {b o : Nat} : faP Mt H 72 6 (.pointer (some ⟨b, o, none⟩)) = some (.val (.pointer (some ⟨b, o + 9, none⟩)), H) := fa_ok fd72_6 T.sz3
theorem fd72_7 : fdO Tryz.prog 72 7 = some (3, 10) := by kernel_rfl
theorem fl72_7 {H : Hp} {x : ast_Node} : fldP Mt H 72 7 (vAgg (ast_Node.c x)) = some (.val (.int .i64 x.f_N), H) := fld_one fd72_7 T.ag3 (ast_Node.seg7 x)
theorem fa72_7 {H : Hp} {b o : Nat} : faP Mt H 72 7 (.pointer (some ⟨b, o, none⟩)) = some (.val (.pointer (some ⟨b, o + 10, none⟩)), H) := fa_ok fd72_7 T.sz3
theorem fd72_8 : fdO Tryz.prog 72 8 = some (4, 11) := by kernel_rfl
theorem fl72_8 {H : Hp} {x : ast_Node} : fldP Mt H 72 8 (vAgg (ast_Node.c x)) = some (.val (.bool x.f_Fold), H) := fld_one fd72_8 T.ag4 (ast_Node.seg8 x)
theorem fa72_8 {H : Hp} {b o : Nat} : faP Mt H 72 8 (.pointer (some ⟨b, o, none⟩)) = some (.val (.pointer (some ⟨b, o + 11, none⟩)), H) := fa_ok fd72_8 T.sz4

-- struct, clew/clewref05.Node
structure ref05_Node where
  f_Kind : Int
  f_A : Int
  f_B : Int
  f_Set : (Arr Int 4)
  f_Min : Int
  f_Max : Int
  f_Mode : Int
  f_N : Int
  f_Fold : Bool
  deriving DecidableEq, Inhabited
def ref05_Node.c (x : ref05_Node) : List Value := (cInt .i64) x.f_Kind ++ ((cInt .i64) x.f_A ++ ((cInt .i64) x.f_B ++ ((cArr (n := 4) (cInt .u64)) x.f_Set ++ ((cInt .i64) x.f_Min ++ ((cInt .i64) x.f_Max ++ ((cInt .i64) x.f_Mode ++ ((cInt .i64) x.f_N ++ (cBool x.f_Fold))))))))
theorem ref05_Node.enc : Enc ref05_Node.c 12 where
  len x := by simp only [ref05_Node.c, List.length_append, (enc_int).len, ((enc_arr (n := 4) enc_int)).len, (enc_bool).len]
  one x v hv := by
    simp only [ref05_Node.c, List.mem_append] at hv
    rcases hv with hv | hv | hv | hv | hv | hv | hv | hv | hv
    · exact (enc_int).one _ v hv
    · exact (enc_int).one _ v hv
    · exact (enc_int).one _ v hv
    · exact ((enc_arr (n := 4) enc_int)).one _ v hv
    · exact (enc_int).one _ v hv
    · exact (enc_int).one _ v hv
    · exact (enc_int).one _ v hv
    · exact (enc_int).one _ v hv
    · exact (enc_bool).one _ v hv
  flat x v hv := by
    simp only [ref05_Node.c, List.mem_append] at hv
    rcases hv with hv | hv | hv | hv | hv | hv | hv | hv | hv
    · exact (enc_int).flat _ v hv
    · exact (enc_int).flat _ v hv
    · exact (enc_int).flat _ v hv
    · exact ((enc_arr (n := 4) enc_int)).flat _ v hv
    · exact (enc_int).flat _ v hv
    · exact (enc_int).flat _ v hv
    · exact (enc_int).flat _ v hv
    · exact (enc_int).flat _ v hv
    · exact (enc_bool).flat _ v hv
  inj a b h := by
    simp only [ref05_Node.c] at h
    obtain ⟨h0, h⟩ := List.append_inj h (by rw [(enc_int).len, (enc_int).len])
    obtain ⟨h1, h⟩ := List.append_inj h (by rw [(enc_int).len, (enc_int).len])
    obtain ⟨h2, h⟩ := List.append_inj h (by rw [(enc_int).len, (enc_int).len])
    obtain ⟨h3, h⟩ := List.append_inj h (by rw [((enc_arr (n := 4) enc_int)).len, ((enc_arr (n := 4) enc_int)).len])
    obtain ⟨h4, h⟩ := List.append_inj h (by rw [(enc_int).len, (enc_int).len])
    obtain ⟨h5, h⟩ := List.append_inj h (by rw [(enc_int).len, (enc_int).len])
    obtain ⟨h6, h⟩ := List.append_inj h (by rw [(enc_int).len, (enc_int).len])
    obtain ⟨h7, h⟩ := List.append_inj h (by rw [(enc_int).len, (enc_int).len])
    have e8 := (enc_bool).inj _ _ h
    have e0 := (enc_int).inj _ _ h0
    have e1 := (enc_int).inj _ _ h1
    have e2 := (enc_int).inj _ _ h2
    have e3 := ((enc_arr (n := 4) enc_int)).inj _ _ h3
    have e4 := (enc_int).inj _ _ h4
    have e5 := (enc_int).inj _ _ h5
    have e6 := (enc_int).inj _ _ h6
    have e7 := (enc_int).inj _ _ h7
    obtain ⟨a0, a1, a2, a3, a4, a5, a6, a7, a8⟩ := a
    obtain ⟨b0, b1, b2, b3, b4, b5, b6, b7, b8⟩ := b
    dsimp only at e0 e1 e2 e3 e4 e5 e6 e7 e8
    subst e0 e1 e2 e3 e4 e5 e6 e7 e8
    rfl
def ref05_Node.zero : ref05_Node := ⟨0, 0, 0, (Arr.rep 4 0), 0, 0, 0, 0, false⟩
abbrev ref05_Node.w0 (x : ref05_Node) (y : Int) : ref05_Node := { x with f_Kind := y }
theorem ref05_Node.seg0 (x : ref05_Node) : Seg (ref05_Node.c x) 0 ((cInt .i64) x.f_Kind) := seg_begin
theorem ref05_Node.wr0 (x : ref05_Node) (y : Int) : wrs (ref05_Node.c x) 0 ((cInt .i64) y) = ref05_Node.c { x with f_Kind := y } := wrs_begin (by rw [(enc_int).len, (enc_int).len])
abbrev ref05_Node.w1 (x : ref05_Node) (y : Int) : ref05_Node := { x with f_A := y }
theorem ref05_Node.seg1 (x : ref05_Node) : Seg (ref05_Node.c x) 1 ((cInt .i64) x.f_A) := by
  have h : ref05_Node.c x = ((cInt .i64) x.f_Kind) ++ ((cInt .i64) x.f_A ++ ((cInt .i64) x.f_B ++ ((cArr (n := 4) (cInt .u64)) x.f_Set ++ ((cInt .i64) x.f_Min ++ ((cInt .i64) x.f_Max ++ ((cInt .i64) x.f_Mode ++ ((cInt .i64) x.f_N ++ (cBool x.f_Fold)))))))) := by simp only [ref05_Node.c, List.append_assoc]
  rw [h]; exact seg_mid (by simp only [List.length_append, (enc_int).len, ((enc_arr (n := 4) enc_int)).len, (enc_bool).len])
theorem ref05_Node.wr1 (x : ref05_Node) (y : Int) : wrs (ref05_Node.c x) 1 ((cInt .i64) y) = ref05_Node.c { x with f_A := y } := by
  have h : ref05_Node.c x = ((cInt .i64) x.f_Kind) ++ ((cInt .i64) x.f_A ++ ((cInt .i64) x.f_B ++ ((cArr (n := 4) (cInt .u64)) x.f_Set ++ ((cInt .i64) x.f_Min ++ ((cInt .i64) x.f_Max ++ ((cInt .i64) x.f_Mode ++ ((cInt .i64) x.f_N ++ (cBool x.f_Fold)))))))) := by simp only [ref05_Node.c, List.append_assoc]
  rw [h, wrs_mid (by simp only [List.length_append, (enc_int).len, ((enc_arr (n := 4) enc_int)).len, (enc_bool).len]) (by rw [(enc_int).len, (enc_int).len])]; simp only [ref05_Node.c, List.append_assoc]
abbrev ref05_Node.w2 (x : ref05_Node) (y : Int) : ref05_Node := { x with f_B := y }
theorem ref05_Node.seg2 (x : ref05_Node) : Seg (ref05_Node.c x) 2 ((cInt .i64) x.f_B) := by
  have h : ref05_Node.c x = (((cInt .i64) x.f_Kind) ++ (cInt .i64) x.f_A) ++ ((cInt .i64) x.f_B ++ ((cArr (n := 4) (cInt .u64)) x.f_Set ++ ((cInt .i64) x.f_Min ++ ((cInt .i64) x.f_Max ++ ((cInt .i64) x.f_Mode ++ ((cInt .i64) x.f_N ++ (cBool x.f_Fold))))))) := by simp only [ref05_Node.c, List.append_assoc]
  rw [h]; exact seg_mid (by simp only [List.length_append, (enc_int).len, ((enc_arr (n := 4) enc_int)).len, (enc_bool).len])
theorem ref05_Node.wr2 (x : ref05_Node) (y : Int) : wrs (ref05_Node.c x) 2 ((cInt .i64) y) = ref05_Node.c { x with f_B := y } := by
  have h : ref05_Node.c x = (((cInt .i64) x.f_Kind) ++ (cInt .i64) x.f_A) ++ ((cInt .i64) x.f_B ++ ((cArr (n := 4) (cInt .u64)) x.f_Set ++ ((cInt .i64) x.f_Min ++ ((cInt .i64) x.f_Max ++ ((cInt .i64) x.f_Mode ++ ((cInt .i64) x.f_N ++ (cBool x.f_Fold))))))) := by simp only [ref05_Node.c, List.append_assoc]
  rw [h, wrs_mid (by simp only [List.length_append, (enc_int).len, ((enc_arr (n := 4) enc_int)).len, (enc_bool).len]) (by rw [(enc_int).len, (enc_int).len])]; simp only [ref05_Node.c, List.append_assoc]
abbrev ref05_Node.w3 (x : ref05_Node) (y : (Arr Int 4)) : ref05_Node := { x with f_Set := y }
theorem ref05_Node.seg3 (x : ref05_Node) : Seg (ref05_Node.c x) 3 ((cArr (n := 4) (cInt .u64)) x.f_Set) := by
  have h : ref05_Node.c x = ((((cInt .i64) x.f_Kind) ++ (cInt .i64) x.f_A) ++ (cInt .i64) x.f_B) ++ ((cArr (n := 4) (cInt .u64)) x.f_Set ++ ((cInt .i64) x.f_Min ++ ((cInt .i64) x.f_Max ++ ((cInt .i64) x.f_Mode ++ ((cInt .i64) x.f_N ++ (cBool x.f_Fold)))))) := by simp only [ref05_Node.c, List.append_assoc]
  rw [h]; exact seg_mid (by simp only [List.length_append, (enc_int).len, ((enc_arr (n := 4) enc_int)).len, (enc_bool).len])
theorem ref05_Node.wr3 (x : ref05_Node) (y : (Arr Int 4)) : wrs (ref05_Node.c x) 3 ((cArr (n := 4) (cInt .u64)) y) = ref05_Node.c { x with f_Set := y } := by
  have h : ref05_Node.c x = ((((cInt .i64) x.f_Kind) ++ (cInt .i64) x.f_A) ++ (cInt .i64) x.f_B) ++ ((cArr (n := 4) (cInt .u64)) x.f_Set ++ ((cInt .i64) x.f_Min ++ ((cInt .i64) x.f_Max ++ ((cInt .i64) x.f_Mode ++ ((cInt .i64) x.f_N ++ (cBool x.f_Fold)))))) := by simp only [ref05_Node.c, List.append_assoc]
  rw [h, wrs_mid (by simp only [List.length_append, (enc_int).len, ((enc_arr (n := 4) enc_int)).len, (enc_bool).len]) (by rw [((enc_arr (n := 4) enc_int)).len, ((enc_arr (n := 4) enc_int)).len])]; simp only [ref05_Node.c, List.append_assoc]
abbrev ref05_Node.w4 (x : ref05_Node) (y : Int) : ref05_Node := { x with f_Min := y }
theorem ref05_Node.seg4 (x : ref05_Node) : Seg (ref05_Node.c x) 7 ((cInt .i64) x.f_Min) := by
  have h : ref05_Node.c x = (((((cInt .i64) x.f_Kind) ++ (cInt .i64) x.f_A) ++ (cInt .i64) x.f_B) ++ (cArr (n := 4) (cInt .u64)) x.f_Set) ++ ((cInt .i64) x.f_Min ++ ((cInt .i64) x.f_Max ++ ((cInt .i64) x.f_Mode ++ ((cInt .i64) x.f_N ++ (cBool x.f_Fold))))) := by simp only [ref05_Node.c, List.append_assoc]
  rw [h]; exact seg_mid (by simp only [List.length_append, (enc_int).len, ((enc_arr (n := 4) enc_int)).len, (enc_bool).len])
theorem ref05_Node.wr4 (x : ref05_Node) (y : Int) : wrs (ref05_Node.c x) 7 ((cInt .i64) y) = ref05_Node.c { x with f_Min := y } := by
  have h : ref05_Node.c x = (((((cInt .i64) x.f_Kind) ++ (cInt .i64) x.f_A) ++ (cInt .i64) x.f_B) ++ (cArr (n := 4) (cInt .u64)) x.f_Set) ++ ((cInt .i64) x.f_Min ++ ((cInt .i64) x.f_Max ++ ((cInt .i64) x.f_Mode ++ ((cInt .i64) x.f_N ++ (cBool x.f_Fold))))) := by simp only [ref05_Node.c, List.append_assoc]
  rw [h, wrs_mid (by simp only [List.length_append, (enc_int).len, ((enc_arr (n := 4) enc_int)).len, (enc_bool).len]) (by rw [(enc_int).len, (enc_int).len])]; simp only [ref05_Node.c, List.append_assoc]
abbrev ref05_Node.w5 (x : ref05_Node) (y : Int) : ref05_Node := { x with f_Max := y }
theorem ref05_Node.seg5 (x : ref05_Node) : Seg (ref05_Node.c x) 8 ((cInt .i64) x.f_Max) := by
  have h : ref05_Node.c x = ((((((cInt .i64) x.f_Kind) ++ (cInt .i64) x.f_A) ++ (cInt .i64) x.f_B) ++ (cArr (n := 4) (cInt .u64)) x.f_Set) ++ (cInt .i64) x.f_Min) ++ ((cInt .i64) x.f_Max ++ ((cInt .i64) x.f_Mode ++ ((cInt .i64) x.f_N ++ (cBool x.f_Fold)))) := by simp only [ref05_Node.c, List.append_assoc]
  rw [h]; exact seg_mid (by simp only [List.length_append, (enc_int).len, ((enc_arr (n := 4) enc_int)).len, (enc_bool).len])
theorem ref05_Node.wr5 (x : ref05_Node) (y : Int) : wrs (ref05_Node.c x) 8 ((cInt .i64) y) = ref05_Node.c { x with f_Max := y } := by
  have h : ref05_Node.c x = ((((((cInt .i64) x.f_Kind) ++ (cInt .i64) x.f_A) ++ (cInt .i64) x.f_B) ++ (cArr (n := 4) (cInt .u64)) x.f_Set) ++ (cInt .i64) x.f_Min) ++ ((cInt .i64) x.f_Max ++ ((cInt .i64) x.f_Mode ++ ((cInt .i64) x.f_N ++ (cBool x.f_Fold)))) := by simp only [ref05_Node.c, List.append_assoc]
  rw [h, wrs_mid (by simp only [List.length_append, (enc_int).len, ((enc_arr (n := 4) enc_int)).len, (enc_bool).len]) (by rw [(enc_int).len, (enc_int).len])]; simp only [ref05_Node.c, List.append_assoc]
abbrev ref05_Node.w6 (x : ref05_Node) (y : Int) : ref05_Node := { x with f_Mode := y }
theorem ref05_Node.seg6 (x : ref05_Node) : Seg (ref05_Node.c x) 9 ((cInt .i64) x.f_Mode) := by
  have h : ref05_Node.c x = (((((((cInt .i64) x.f_Kind) ++ (cInt .i64) x.f_A) ++ (cInt .i64) x.f_B) ++ (cArr (n := 4) (cInt .u64)) x.f_Set) ++ (cInt .i64) x.f_Min) ++ (cInt .i64) x.f_Max) ++ ((cInt .i64) x.f_Mode ++ ((cInt .i64) x.f_N ++ (cBool x.f_Fold))) := by simp only [ref05_Node.c, List.append_assoc]
  rw [h]; exact seg_mid (by simp only [List.length_append, (enc_int).len, ((enc_arr (n := 4) enc_int)).len, (enc_bool).len])
theorem ref05_Node.wr6 (x : ref05_Node) (y : Int) : wrs (ref05_Node.c x) 9 ((cInt .i64) y) = ref05_Node.c { x with f_Mode := y } := by
  have h : ref05_Node.c x = (((((((cInt .i64) x.f_Kind) ++ (cInt .i64) x.f_A) ++ (cInt .i64) x.f_B) ++ (cArr (n := 4) (cInt .u64)) x.f_Set) ++ (cInt .i64) x.f_Min) ++ (cInt .i64) x.f_Max) ++ ((cInt .i64) x.f_Mode ++ ((cInt .i64) x.f_N ++ (cBool x.f_Fold))) := by simp only [ref05_Node.c, List.append_assoc]
  rw [h, wrs_mid (by simp only [List.length_append, (enc_int).len, ((enc_arr (n := 4) enc_int)).len, (enc_bool).len]) (by rw [(enc_int).len, (enc_int).len])]; simp only [ref05_Node.c, List.append_assoc]
abbrev ref05_Node.w7 (x : ref05_Node) (y : Int) : ref05_Node := { x with f_N := y }
theorem ref05_Node.seg7 (x : ref05_Node) : Seg (ref05_Node.c x) 10 ((cInt .i64) x.f_N) := by
  have h : ref05_Node.c x = ((((((((cInt .i64) x.f_Kind) ++ (cInt .i64) x.f_A) ++ (cInt .i64) x.f_B) ++ (cArr (n := 4) (cInt .u64)) x.f_Set) ++ (cInt .i64) x.f_Min) ++ (cInt .i64) x.f_Max) ++ (cInt .i64) x.f_Mode) ++ ((cInt .i64) x.f_N ++ (cBool x.f_Fold)) := by simp only [ref05_Node.c, List.append_assoc]
  rw [h]; exact seg_mid (by simp only [List.length_append, (enc_int).len, ((enc_arr (n := 4) enc_int)).len, (enc_bool).len])
theorem ref05_Node.wr7 (x : ref05_Node) (y : Int) : wrs (ref05_Node.c x) 10 ((cInt .i64) y) = ref05_Node.c { x with f_N := y } := by
  have h : ref05_Node.c x = ((((((((cInt .i64) x.f_Kind) ++ (cInt .i64) x.f_A) ++ (cInt .i64) x.f_B) ++ (cArr (n := 4) (cInt .u64)) x.f_Set) ++ (cInt .i64) x.f_Min) ++ (cInt .i64) x.f_Max) ++ (cInt .i64) x.f_Mode) ++ ((cInt .i64) x.f_N ++ (cBool x.f_Fold)) := by simp only [ref05_Node.c, List.append_assoc]
  rw [h, wrs_mid (by simp only [List.length_append, (enc_int).len, ((enc_arr (n := 4) enc_int)).len, (enc_bool).len]) (by rw [(enc_int).len, (enc_int).len])]; simp only [ref05_Node.c, List.append_assoc]
abbrev ref05_Node.w8 (x : ref05_Node) (y : Bool) : ref05_Node := { x with f_Fold := y }
theorem ref05_Node.seg8 (x : ref05_Node) : Seg (ref05_Node.c x) 11 (cBool x.f_Fold) := by
  have h : ref05_Node.c x = (((((((((cInt .i64) x.f_Kind) ++ (cInt .i64) x.f_A) ++ (cInt .i64) x.f_B) ++ (cArr (n := 4) (cInt .u64)) x.f_Set) ++ (cInt .i64) x.f_Min) ++ (cInt .i64) x.f_Max) ++ (cInt .i64) x.f_Mode) ++ (cInt .i64) x.f_N) ++ cBool x.f_Fold := by simp only [ref05_Node.c, List.append_assoc]
  rw [h]; exact seg_end (by simp only [List.length_append, (enc_int).len, ((enc_arr (n := 4) enc_int)).len, (enc_bool).len])
theorem ref05_Node.wr8 (x : ref05_Node) (y : Bool) : wrs (ref05_Node.c x) 11 (cBool y) = ref05_Node.c { x with f_Fold := y } := by
  have h : ref05_Node.c x = (((((((((cInt .i64) x.f_Kind) ++ (cInt .i64) x.f_A) ++ (cInt .i64) x.f_B) ++ (cArr (n := 4) (cInt .u64)) x.f_Set) ++ (cInt .i64) x.f_Min) ++ (cInt .i64) x.f_Max) ++ (cInt .i64) x.f_Mode) ++ (cInt .i64) x.f_N) ++ cBool x.f_Fold := by simp only [ref05_Node.c, List.append_assoc]
  rw [h, wrs_end (by simp only [List.length_append, (enc_int).len, ((enc_arr (n := 4) enc_int)).len, (enc_bool).len]) (by rw [(enc_bool).len, (enc_bool).len])]; simp only [ref05_Node.c, List.append_assoc]
theorem zs96 : zc Mt.P 96 = some (ref05_Node.c ref05_Node.zero) := T.zc96
theorem pl96 : plO Tryz.prog 96 = some [(0, 1), (1, 1), (2, 1), (3, 4), (7, 1), (8, 1), (9, 1), (10, 1), (11, 1)] := by kernel_rfl
theorem zs97 : zc Mt.P 97 = some (ref05_Node.c ref05_Node.zero) := T.zc97
theorem pl97 : plO Tryz.prog 97 = some [(0, 1), (1, 1), (2, 1), (3, 4), (7, 1), (8, 1), (9, 1), (10, 1), (11, 1)] := by kernel_rfl
theorem fd96_0 : fdO Tryz.prog 96 0 = some (3, 0) := by kernel_rfl
theorem fl96_0 {H : Hp} {x : ref05_Node} : fldP Mt H 96 0 (vAgg (ref05_Node.c x)) = some (.val (.int .i64 x.f_Kind), H) := fld_one fd96_0 T.ag3 (ref05_Node.seg0 x)
theorem fa96_0 {H : Hp} {b o : Nat} : faP Mt H 96 0 (.pointer (some ⟨b, o, none⟩)) = some (.val (.pointer (some ⟨b, o + 0, none⟩)), H) := fa_ok fd96_0 T.sz3
theorem fd96_1 : fdO Tryz.prog 96 1 = some (3, 1) := by kernel_rfl
theorem fl96_1 {H : Hp} {x : ref05_Node} : fldP Mt H 96 1 (vAgg (ref05_Node.c x)) = some (.val (.int .i64 x.f_A), H) := fld_one fd96_1 T.ag3 (ref05_Node.seg1 x)
theorem fa96_1 {H : Hp} {b o : Nat} : faP Mt H 96 1 (.pointer (some ⟨b, o, none⟩)) = some (.val (.pointer (some ⟨b, o + 1, none⟩)), H) := fa_ok fd96_1 T.sz3
theorem fd96_2 : fdO Tryz.prog 96 2 = some (3, 2) := by kernel_rfl
theorem fl96_2 {H : Hp} {x : ref05_Node} : fldP Mt H 96 2 (vAgg (ref05_Node.c x)) = some (.val (.int .i64 x.f_B), H) := fld_one fd96_2 T.ag3 (ref05_Node.seg2 x)
theorem fa96_2 {H : Hp} {b o : Nat} : faP Mt H 96 2 (.pointer (some ⟨b, o, none⟩)) = some (.val (.pointer (some ⟨b, o + 2, none⟩)), H) := fa_ok fd96_2 T.sz3
theorem fd96_3 : fdO Tryz.prog 96 3 = some (23, 3) := by kernel_rfl
theorem fl96_3 {H : Hp} {x : ref05_Node} : fldP Mt H 96 3 (vAgg (ref05_Node.c x)) = some (.val (vAgg ((cArr (n := 4) (cInt .u64)) x.f_Set)), H) := fld_agg fd96_3 T.ag23 (by rw [((enc_arr (n := 4) enc_int)).len]; exact T.sz23) (ref05_Node.seg3 x)
theorem fa96_3 {H : Hp} {b o : Nat} : faP Mt H 96 3 (.pointer (some ⟨b, o, none⟩)) = some (.val (.pointer (some ⟨b, o + 3, none⟩)), H) := fa_ok fd96_3 T.sz23
theorem fd96_4 : fdO Tryz.prog 96 4 = some (3, 7) := by kernel_rfl
theorem fl96_4 {H : Hp} {x : ref05_Node} : fldP Mt H 96 4 (vAgg (ref05_Node.c x)) = some (.val (.int .i64 x.f_Min), H) := fld_one fd96_4 T.ag3 (ref05_Node.seg4 x)
theorem fa96_4 {H : Hp} {b o : Nat} : faP Mt H 96 4 (.pointer (some ⟨b, o, none⟩)) = some (.val (.pointer (some ⟨b, o + 7, none⟩)), H) := fa_ok fd96_4 T.sz3
theorem fd96_5 : fdO Tryz.prog 96 5 = some (3, 8) := by kernel_rfl
theorem fl96_5 {H : Hp} {x : ref05_Node} : fldP Mt H 96 5 (vAgg (ref05_Node.c x)) = some (.val (.int .i64 x.f_Max), H) := fld_one fd96_5 T.ag3 (ref05_Node.seg5 x)
theorem fa96_5 {H : Hp} {b o : Nat} : faP Mt H 96 5 (.pointer (some ⟨b, o, none⟩)) = some (.val (.pointer (some ⟨b, o + 8, none⟩)), H) := fa_ok fd96_5 T.sz3
theorem fd96_6 : fdO Tryz.prog 96 6 = some (3, 9) := by kernel_rfl
theorem fl96_6 {H : Hp} {x : ref05_Node} : fldP Mt H 96 6 (vAgg (ref05_Node.c x)) = some (.val (.int .i64 x.f_Mode), H) := fld_one fd96_6 T.ag3 (ref05_Node.seg6 x)
theorem fa96_6 {H : Hp} {b o : Nat} : faP Mt H 96 6 (.pointer (some ⟨b, o, none⟩)) = some (.val (.pointer (some ⟨b, o + 9, none⟩)), H) := fa_ok fd96_6 T.sz3
theorem fd96_7 : fdO Tryz.prog 96 7 = some (3, 10) := by kernel_rfl
theorem fl96_7 {H : Hp} {x : ref05_Node} : fldP Mt H 96 7 (vAgg (ref05_Node.c x)) = some (.val (.int .i64 x.f_N), H) := fld_one fd96_7 T.ag3 (ref05_Node.seg7 x)
theorem fa96_7 {H : Hp} {b o : Nat} : faP Mt H 96 7 (.pointer (some ⟨b, o, none⟩)) = some (.val (.pointer (some ⟨b, o + 10, none⟩)), H) := fa_ok fd96_7 T.sz3
theorem fd96_8 : fdO Tryz.prog 96 8 = some (4, 11) := by kernel_rfl
theorem fl96_8 {H : Hp} {x : ref05_Node} : fldP Mt H 96 8 (vAgg (ref05_Node.c x)) = some (.val (.bool x.f_Fold), H) := fld_one fd96_8 T.ag4 (ref05_Node.seg8 x)
theorem fa96_8 {H : Hp} {b o : Nat} : faP Mt H 96 8 (.pointer (some ⟨b, o, none⟩)) = some (.val (.pointer (some ⟨b, o + 11, none⟩)), H) := fa_ok fd96_8 T.sz4
theorem fd97_0 : fdO Tryz.prog 97 0 = some (3, 0) := by kernel_rfl
theorem fl97_0 {H : Hp} {x : ref05_Node} : fldP Mt H 97 0 (vAgg (ref05_Node.c x)) = some (.val (.int .i64 x.f_Kind), H) := fld_one fd97_0 T.ag3 (ref05_Node.seg0 x)
theorem fa97_0 {H : Hp} {b o : Nat} : faP Mt H 97 0 (.pointer (some ⟨b, o, none⟩)) = some (.val (.pointer (some ⟨b, o + 0, none⟩)), H) := fa_ok fd97_0 T.sz3
theorem fd97_1 : fdO Tryz.prog 97 1 = some (3, 1) := by kernel_rfl
theorem fl97_1 {H : Hp} {x : ref05_Node} : fldP Mt H 97 1 (vAgg (ref05_Node.c x)) = some (.val (.int .i64 x.f_A), H) := fld_one fd97_1 T.ag3 (ref05_Node.seg1 x)
theorem fa97_1 {H : Hp} {b o : Nat} : faP Mt H 97 1 (.pointer (some ⟨b, o, none⟩)) = some (.val (.pointer (some ⟨b, o + 1, none⟩)), H) := fa_ok fd97_1 T.sz3
theorem fd97_2 : fdO Tryz.prog 97 2 = some (3, 2) := by kernel_rfl
theorem fl97_2 {H : Hp} {x : ref05_Node} : fldP Mt H 97 2 (vAgg (ref05_Node.c x)) = some (.val (.int .i64 x.f_B), H) := fld_one fd97_2 T.ag3 (ref05_Node.seg2 x)
theorem fa97_2 {H : Hp} {b o : Nat} : faP Mt H 97 2 (.pointer (some ⟨b, o, none⟩)) = some (.val (.pointer (some ⟨b, o + 2, none⟩)), H) := fa_ok fd97_2 T.sz3
theorem fd97_3 : fdO Tryz.prog 97 3 = some (23, 3) := by kernel_rfl
theorem fl97_3 {H : Hp} {x : ref05_Node} : fldP Mt H 97 3 (vAgg (ref05_Node.c x)) = some (.val (vAgg ((cArr (n := 4) (cInt .u64)) x.f_Set)), H) := fld_agg fd97_3 T.ag23 (by rw [((enc_arr (n := 4) enc_int)).len]; exact T.sz23) (ref05_Node.seg3 x)
theorem fa97_3 {H : Hp} {b o : Nat} : faP Mt H 97 3 (.pointer (some ⟨b, o, none⟩)) = some (.val (.pointer (some ⟨b, o + 3, none⟩)), H) := fa_ok fd97_3 T.sz23
theorem fd97_4 : fdO Tryz.prog 97 4 = some (3, 7) := by kernel_rfl
theorem fl97_4 {H : Hp} {x : ref05_Node} : fldP Mt H 97 4 (vAgg (ref05_Node.c x)) = some (.val (.int .i64 x.f_Min), H) := fld_one fd97_4 T.ag3 (ref05_Node.seg4 x)
theorem fa97_4 {H : Hp} {b o : Nat} : faP Mt H 97 4 (.pointer (some ⟨b, o, none⟩)) = some (.val (.pointer (some ⟨b, o + 7, none⟩)), H) := fa_ok fd97_4 T.sz3
theorem fd97_5 : fdO Tryz.prog 97 5 = some (3, 8) := by kernel_rfl
theorem fl97_5 {H : Hp} {x : ref05_Node} : fldP Mt H 97 5 (vAgg (ref05_Node.c x)) = some (.val (.int .i64 x.f_Max), H) := fld_one fd97_5 T.ag3 (ref05_Node.seg5 x)
theorem fa97_5 {H : Hp} {b o : Nat} : faP Mt H 97 5 (.pointer (some ⟨b, o, none⟩)) = some (.val (.pointer (some ⟨b, o + 8, none⟩)), H) := fa_ok fd97_5 T.sz3
theorem fd97_6 : fdO Tryz.prog 97 6 = some (3, 9) := by kernel_rfl
theorem fl97_6 {H : Hp} {x : ref05_Node} : fldP Mt H 97 6 (vAgg (ref05_Node.c x)) = some (.val (.int .i64 x.f_Mode), H) := fld_one fd97_6 T.ag3 (ref05_Node.seg6 x)
theorem fa97_6 {H : Hp} {b o : Nat} : faP Mt H 97 6 (.pointer (some ⟨b, o, none⟩)) = some (.val (.pointer (some ⟨b, o + 9, none⟩)), H) := fa_ok fd97_6 T.sz3
theorem fd97_7 : fdO Tryz.prog 97 7 = some (3, 10) := by kernel_rfl
theorem fl97_7 {H : Hp} {x : ref05_Node} : fldP Mt H 97 7 (vAgg (ref05_Node.c x)) = some (.val (.int .i64 x.f_N), H) := fld_one fd97_7 T.ag3 (ref05_Node.seg7 x)
theorem fa97_7 {H : Hp} {b o : Nat} : faP Mt H 97 7 (.pointer (some ⟨b, o, none⟩)) = some (.val (.pointer (some ⟨b, o + 10, none⟩)), H) := fa_ok fd97_7 T.sz3
theorem fd97_8 : fdO Tryz.prog 97 8 = some (4, 11) := by kernel_rfl
theorem fl97_8 {H : Hp} {x : ref05_Node} : fldP Mt H 97 8 (vAgg (ref05_Node.c x)) = some (.val (.bool x.f_Fold), H) := fld_one fd97_8 T.ag4 (ref05_Node.seg8 x)
theorem fa97_8 {H : Hp} {b o : Nat} : faP Mt H 97 8 (.pointer (some ⟨b, o, none⟩)) = some (.val (.pointer (some ⟨b, o + 11, none⟩)), H) := fa_ok fd97_8 T.sz4

-- struct, clew/facts.known
structure facts_known where
  f_Facts : facts_Facts
  f_whole : Bool
  f_none : Bool
  deriving DecidableEq, Inhabited
def facts_known.c (x : facts_known) : List Value := facts_Facts.c x.f_Facts ++ (cBool x.f_whole ++ (cBool x.f_none))
theorem facts_known.enc : Enc facts_known.c 9 where
  len x := by simp only [facts_known.c, List.length_append, (facts_Facts.enc).len, (enc_bool).len]
  one x v hv := by
    simp only [facts_known.c, List.mem_append] at hv
    rcases hv with hv | hv | hv
    · exact (facts_Facts.enc).one _ v hv
    · exact (enc_bool).one _ v hv
    · exact (enc_bool).one _ v hv
  flat x v hv := by
    simp only [facts_known.c, List.mem_append] at hv
    rcases hv with hv | hv | hv
    · exact (facts_Facts.enc).flat _ v hv
    · exact (enc_bool).flat _ v hv
    · exact (enc_bool).flat _ v hv
  inj a b h := by
    simp only [facts_known.c] at h
    obtain ⟨h0, h⟩ := List.append_inj h (by rw [(facts_Facts.enc).len, (facts_Facts.enc).len])
    obtain ⟨h1, h⟩ := List.append_inj h (by rw [(enc_bool).len, (enc_bool).len])
    have e2 := (enc_bool).inj _ _ h
    have e0 := (facts_Facts.enc).inj _ _ h0
    have e1 := (enc_bool).inj _ _ h1
    obtain ⟨a0, a1, a2⟩ := a
    obtain ⟨b0, b1, b2⟩ := b
    dsimp only at e0 e1 e2
    subst e0 e1 e2
    rfl
def facts_known.zero : facts_known := ⟨facts_Facts.zero, false, false⟩
abbrev facts_known.w0 (x : facts_known) (y : facts_Facts) : facts_known := { x with f_Facts := y }
theorem facts_known.seg0 (x : facts_known) : Seg (facts_known.c x) 0 (facts_Facts.c x.f_Facts) := seg_begin
theorem facts_known.wr0 (x : facts_known) (y : facts_Facts) : wrs (facts_known.c x) 0 (facts_Facts.c y) = facts_known.c { x with f_Facts := y } := wrs_begin (by rw [(facts_Facts.enc).len, (facts_Facts.enc).len])
abbrev facts_known.w1 (x : facts_known) (y : Bool) : facts_known := { x with f_whole := y }
theorem facts_known.seg1 (x : facts_known) : Seg (facts_known.c x) 7 (cBool x.f_whole) := by
  have h : facts_known.c x = (facts_Facts.c x.f_Facts) ++ (cBool x.f_whole ++ (cBool x.f_none)) := by simp only [facts_known.c, List.append_assoc]
  rw [h]; exact seg_mid (by simp only [List.length_append, (facts_Facts.enc).len, (enc_bool).len])
theorem facts_known.wr1 (x : facts_known) (y : Bool) : wrs (facts_known.c x) 7 (cBool y) = facts_known.c { x with f_whole := y } := by
  have h : facts_known.c x = (facts_Facts.c x.f_Facts) ++ (cBool x.f_whole ++ (cBool x.f_none)) := by simp only [facts_known.c, List.append_assoc]
  rw [h, wrs_mid (by simp only [List.length_append, (facts_Facts.enc).len, (enc_bool).len]) (by rw [(enc_bool).len, (enc_bool).len])]; simp only [facts_known.c, List.append_assoc]
abbrev facts_known.w2 (x : facts_known) (y : Bool) : facts_known := { x with f_none := y }
theorem facts_known.seg2 (x : facts_known) : Seg (facts_known.c x) 8 (cBool x.f_none) := by
  have h : facts_known.c x = ((facts_Facts.c x.f_Facts) ++ cBool x.f_whole) ++ cBool x.f_none := by simp only [facts_known.c, List.append_assoc]
  rw [h]; exact seg_end (by simp only [List.length_append, (facts_Facts.enc).len, (enc_bool).len])
theorem facts_known.wr2 (x : facts_known) (y : Bool) : wrs (facts_known.c x) 8 (cBool y) = facts_known.c { x with f_none := y } := by
  have h : facts_known.c x = ((facts_Facts.c x.f_Facts) ++ cBool x.f_whole) ++ cBool x.f_none := by simp only [facts_known.c, List.append_assoc]
  rw [h, wrs_end (by simp only [List.length_append, (facts_Facts.enc).len, (enc_bool).len]) (by rw [(enc_bool).len, (enc_bool).len])]; simp only [facts_known.c, List.append_assoc]
theorem zs106 : zc Mt.P 106 = some (facts_known.c facts_known.zero) := T.zc106
theorem pl106 : plO Tryz.prog 106 = some [(0, 7), (7, 1), (8, 1)] := by kernel_rfl
theorem zs107 : zc Mt.P 107 = some (facts_known.c facts_known.zero) := T.zc107
theorem pl107 : plO Tryz.prog 107 = some [(0, 7), (7, 1), (8, 1)] := by kernel_rfl
theorem fd106_0 : fdO Tryz.prog 106 0 = some (54, 0) := by kernel_rfl
theorem fl106_0 {H : Hp} {x : facts_known} : fldP Mt H 106 0 (vAgg (facts_known.c x)) = some (.val (vAgg (facts_Facts.c x.f_Facts)), H) := fld_agg fd106_0 T.ag54 (by rw [(facts_Facts.enc).len]; exact T.sz54) (facts_known.seg0 x)
theorem fa106_0 {H : Hp} {b o : Nat} : faP Mt H 106 0 (.pointer (some ⟨b, o, none⟩)) = some (.val (.pointer (some ⟨b, o + 0, none⟩)), H) := fa_ok fd106_0 T.sz54
theorem fd106_1 : fdO Tryz.prog 106 1 = some (4, 7) := by kernel_rfl
theorem fl106_1 {H : Hp} {x : facts_known} : fldP Mt H 106 1 (vAgg (facts_known.c x)) = some (.val (.bool x.f_whole), H) := fld_one fd106_1 T.ag4 (facts_known.seg1 x)
theorem fa106_1 {H : Hp} {b o : Nat} : faP Mt H 106 1 (.pointer (some ⟨b, o, none⟩)) = some (.val (.pointer (some ⟨b, o + 7, none⟩)), H) := fa_ok fd106_1 T.sz4
theorem fd106_2 : fdO Tryz.prog 106 2 = some (4, 8) := by kernel_rfl
theorem fl106_2 {H : Hp} {x : facts_known} : fldP Mt H 106 2 (vAgg (facts_known.c x)) = some (.val (.bool x.f_none), H) := fld_one fd106_2 T.ag4 (facts_known.seg2 x)
theorem fa106_2 {H : Hp} {b o : Nat} : faP Mt H 106 2 (.pointer (some ⟨b, o, none⟩)) = some (.val (.pointer (some ⟨b, o + 8, none⟩)), H) := fa_ok fd106_2 T.sz4
theorem fd107_0 : fdO Tryz.prog 107 0 = some (54, 0) := by kernel_rfl
theorem fl107_0 {H : Hp} {x : facts_known} : fldP Mt H 107 0 (vAgg (facts_known.c x)) = some (.val (vAgg (facts_Facts.c x.f_Facts)), H) := fld_agg fd107_0 T.ag54 (by rw [(facts_Facts.enc).len]; exact T.sz54) (facts_known.seg0 x)
theorem fa107_0 {H : Hp} {b o : Nat} : faP Mt H 107 0 (.pointer (some ⟨b, o, none⟩)) = some (.val (.pointer (some ⟨b, o + 0, none⟩)), H) := fa_ok fd107_0 T.sz54
theorem fd107_1 : fdO Tryz.prog 107 1 = some (4, 7) := by kernel_rfl
theorem fl107_1 {H : Hp} {x : facts_known} : fldP Mt H 107 1 (vAgg (facts_known.c x)) = some (.val (.bool x.f_whole), H) := fld_one fd107_1 T.ag4 (facts_known.seg1 x)
theorem fa107_1 {H : Hp} {b o : Nat} : faP Mt H 107 1 (.pointer (some ⟨b, o, none⟩)) = some (.val (.pointer (some ⟨b, o + 7, none⟩)), H) := fa_ok fd107_1 T.sz4
theorem fd107_2 : fdO Tryz.prog 107 2 = some (4, 8) := by kernel_rfl
theorem fl107_2 {H : Hp} {x : facts_known} : fldP Mt H 107 2 (vAgg (facts_known.c x)) = some (.val (.bool x.f_none), H) := fld_one fd107_2 T.ag4 (facts_known.seg2 x)
theorem fa107_2 {H : Hp} {b o : Nat} : faP Mt H 107 2 (.pointer (some ⟨b, o, none⟩)) = some (.val (.pointer (some ⟨b, o + 8, none⟩)), H) := fa_ok fd107_2 T.sz4

theorem zs23 : zc Mt.P 23 = some ((cArr (n := 4) (cInt .u64)) (Arr.rep 4 0)) := T.zc23
theorem ix23 {H : Hp} {a : (Arr Int 4)} {k : IntKind} {i : Int} : idxP Mt H 23 (vAgg ((cArr (n := 4) (cInt .u64)) a)) (.int k i) = (ck 4 i).map fun j => (.val (.int .u64 (a.nth j)), H) := ix_one (v := fun x => .int .u64 x) Tryz.underlying23 T.ag22 T.sz22 fun _ => rfl
theorem ia23 {H : Hp} {b o : Nat} {k : IntKind} {i : Int} : iaP Mt H 23 (.pointer (some ⟨b, o, none⟩)) (.int k i) = (ck 4 i).map fun j => (.val (.pointer (some ⟨b, o + j * 1, none⟩)), H) := ia_arr Tryz.underlying23 T.sz22

theorem zs57 : zc Mt.P 57 = some ((cArr (n := 256) cBool) (Arr.rep 256 false)) := T.zc57
theorem ix57 {H : Hp} {a : (Arr Bool 256)} {k : IntKind} {i : Int} : idxP Mt H 57 (vAgg ((cArr (n := 256) cBool) a)) (.int k i) = (ck 256 i).map fun j => (.val (.bool (a.nth j)), H) := ix_one (v := fun x => .bool x) Tryz.underlying57 T.ag4 T.sz4 fun _ => rfl
theorem ia57 {H : Hp} {b o : Nat} {k : IntKind} {i : Int} : iaP Mt H 57 (.pointer (some ⟨b, o, none⟩)) (.int k i) = (ck 256 i).map fun j => (.val (.pointer (some ⟨b, o + j * 1, none⟩)), H) := ia_arr Tryz.underlying57 T.sz4

theorem zs90 : zc Mt.P 90 = some ((cArr (n := 2) (cInt .u8)) (Arr.rep 2 0)) := T.zc90
theorem ix90 {H : Hp} {a : (Arr Int 2)} {k : IntKind} {i : Int} : idxP Mt H 90 (vAgg ((cArr (n := 2) (cInt .u8)) a)) (.int k i) = (ck 2 i).map fun j => (.val (.int .u8 (a.nth j)), H) := ix_one (v := fun x => .int .u8 x) Tryz.underlying90 T.ag5 T.sz5 fun _ => rfl
theorem ia90 {H : Hp} {b o : Nat} {k : IntKind} {i : Int} : iaP Mt H 90 (.pointer (some ⟨b, o, none⟩)) (.int k i) = (ck 2 i).map fun j => (.val (.pointer (some ⟨b, o + j * 1, none⟩)), H) := ia_arr Tryz.underlying90 T.sz5

theorem zs169 : zc Mt.P 169 = some ((cArr (n := 5) (cInt .i64)) (Arr.rep 5 0)) := T.zc169
theorem ix169 {H : Hp} {a : (Arr Int 5)} {k : IntKind} {i : Int} : idxP Mt H 169 (vAgg ((cArr (n := 5) (cInt .i64)) a)) (.int k i) = (ck 5 i).map fun j => (.val (.int .i64 (a.nth j)), H) := ix_one (v := fun x => .int .i64 x) Tryz.underlying169 T.ag3 T.sz3 fun _ => rfl
theorem ia169 {H : Hp} {b o : Nat} {k : IntKind} {i : Int} : iaP Mt H 169 (.pointer (some ⟨b, o, none⟩)) (.int k i) = (ck 5 i).map fun j => (.val (.pointer (some ⟨b, o + j * 1, none⟩)), H) := ia_arr Tryz.underlying169 T.sz3

theorem zs170 : zc Mt.P 170 = some ((cArr (n := 6) cStr) (Arr.rep 6 ⟨#[]⟩)) := T.zc170
theorem ix170 {H : Hp} {a : (Arr ByteArray 6)} {k : IntKind} {i : Int} : idxP Mt H 170 (vAgg ((cArr (n := 6) cStr) a)) (.int k i) = (ck 6 i).map fun j => (.val (.string (a.nth j)), H) := ix_one (v := fun x => .string x) Tryz.underlying170 T.ag9 T.sz9 fun _ => rfl
theorem ia170 {H : Hp} {b o : Nat} {k : IntKind} {i : Int} : iaP Mt H 170 (.pointer (some ⟨b, o, none⟩)) (.int k i) = (ck 6 i).map fun j => (.val (.pointer (some ⟨b, o + j * 1, none⟩)), H) := ia_arr Tryz.underlying170 T.sz9

theorem zs194 : zc Mt.P 194 = some ((cArr (n := 3) cStr) (Arr.rep 3 ⟨#[]⟩)) := T.zc194
theorem ix194 {H : Hp} {a : (Arr ByteArray 3)} {k : IntKind} {i : Int} : idxP Mt H 194 (vAgg ((cArr (n := 3) cStr) a)) (.int k i) = (ck 3 i).map fun j => (.val (.string (a.nth j)), H) := ix_one (v := fun x => .string x) Tryz.underlying194 T.ag9 T.sz9 fun _ => rfl
theorem ia194 {H : Hp} {b o : Nat} {k : IntKind} {i : Int} : iaP Mt H 194 (.pointer (some ⟨b, o, none⟩)) (.int k i) = (ck 3 i).map fun j => (.val (.pointer (some ⟨b, o + j * 1, none⟩)), H) := ia_arr Tryz.underlying194 T.sz9

theorem zs206 : zc Mt.P 206 = some ((cArr (n := 64) (cInt .u8)) (Arr.rep 64 0)) := T.zc206
theorem ix206 {H : Hp} {a : (Arr Int 64)} {k : IntKind} {i : Int} : idxP Mt H 206 (vAgg ((cArr (n := 64) (cInt .u8)) a)) (.int k i) = (ck 64 i).map fun j => (.val (.int .u8 (a.nth j)), H) := ix_one (v := fun x => .int .u8 x) Tryz.underlying206 T.ag5 T.sz5 fun _ => rfl
theorem ia206 {H : Hp} {b o : Nat} {k : IntKind} {i : Int} : iaP Mt H 206 (.pointer (some ⟨b, o, none⟩)) (.int k i) = (ck 64 i).map fun j => (.val (.pointer (some ⟨b, o + j * 1, none⟩)), H) := ia_arr Tryz.underlying206 T.sz5

theorem zs219 : zc Mt.P 219 = some ((cArr (n := 24) (cInt .u8)) (Arr.rep 24 0)) := T.zc219
theorem ix219 {H : Hp} {a : (Arr Int 24)} {k : IntKind} {i : Int} : idxP Mt H 219 (vAgg ((cArr (n := 24) (cInt .u8)) a)) (.int k i) = (ck 24 i).map fun j => (.val (.int .u8 (a.nth j)), H) := ix_one (v := fun x => .int .u8 x) Tryz.underlying219 T.ag5 T.sz5 fun _ => rfl
theorem ia219 {H : Hp} {b o : Nat} {k : IntKind} {i : Int} : iaP Mt H 219 (.pointer (some ⟨b, o, none⟩)) (.int k i) = (ck 24 i).map fun j => (.val (.pointer (some ⟨b, o + j * 1, none⟩)), H) := ia_arr Tryz.underlying219 T.sz5

theorem zs224 : zc Mt.P 224 = some ((cArr (n := 20) (cInt .u64)) (Arr.rep 20 0)) := T.zc224
theorem ix224 {H : Hp} {a : (Arr Int 20)} {k : IntKind} {i : Int} : idxP Mt H 224 (vAgg ((cArr (n := 20) (cInt .u64)) a)) (.int k i) = (ck 20 i).map fun j => (.val (.int .u64 (a.nth j)), H) := ix_one (v := fun x => .int .u64 x) Tryz.underlying224 T.ag22 T.sz22 fun _ => rfl
theorem ia224 {H : Hp} {b o : Nat} {k : IntKind} {i : Int} : iaP Mt H 224 (.pointer (some ⟨b, o, none⟩)) (.int k i) = (ck 20 i).map fun j => (.val (.pointer (some ⟨b, o + j * 1, none⟩)), H) := ia_arr Tryz.underlying224 T.sz22

theorem zs225 : zc Mt.P 225 = some ((cArr (n := 65) (cInt .u8)) (Arr.rep 65 0)) := T.zc225
theorem ix225 {H : Hp} {a : (Arr Int 65)} {k : IntKind} {i : Int} : idxP Mt H 225 (vAgg ((cArr (n := 65) (cInt .u8)) a)) (.int k i) = (ck 65 i).map fun j => (.val (.int .u8 (a.nth j)), H) := ix_one (v := fun x => .int .u8 x) Tryz.underlying225 T.ag5 T.sz5 fun _ => rfl
theorem ia225 {H : Hp} {b o : Nat} {k : IntKind} {i : Int} : iaP Mt H 225 (.pointer (some ⟨b, o, none⟩)) (.int k i) = (ck 65 i).map fun j => (.val (.pointer (some ⟨b, o + j * 1, none⟩)), H) := ia_arr Tryz.underlying225 T.sz5

theorem zs227 : zc Mt.P 227 = some ((cArr (n := 32) (cInt .u8)) (Arr.rep 32 0)) := T.zc227
theorem ix227 {H : Hp} {a : (Arr Int 32)} {k : IntKind} {i : Int} : idxP Mt H 227 (vAgg ((cArr (n := 32) (cInt .u8)) a)) (.int k i) = (ck 32 i).map fun j => (.val (.int .u8 (a.nth j)), H) := ix_one (v := fun x => .int .u8 x) Tryz.underlying227 T.ag5 T.sz5 fun _ => rfl
theorem ia227 {H : Hp} {b o : Nat} {k : IntKind} {i : Int} : iaP Mt H 227 (.pointer (some ⟨b, o, none⟩)) (.int k i) = (ck 32 i).map fun j => (.val (.pointer (some ⟨b, o + j * 1, none⟩)), H) := ia_arr Tryz.underlying227 T.sz5

theorem ia27 {H : Hp} {b : Nat} {x : (Sl lex_Token)} {k : IntKind} {i : Int} : iaP Mt H 27 (slV x b) (.int k i) = (ck (Sl.l x).length i).map fun j => (.val (.pointer (some ⟨b, j * 10, none⟩)), H) := ia_sl Tryz.underlying27 T.sz33
theorem ln27 {b : Nat} {x : (Sl lex_Token)} : lenA Mt.P 27 (slV x b) = some (.int .i64 (Sl.len x)) := len_sl Tryz.underlying27

theorem ia35 {H : Hp} {b : Nat} {x : (Sl ast_Node)} {k : IntKind} {i : Int} : iaP Mt H 35 (slV x b) (.int k i) = (ck (Sl.l x).length i).map fun j => (.val (.pointer (some ⟨b, j * 12, none⟩)), H) := ia_sl Tryz.underlying35 T.sz72
theorem ln35 {b : Nat} {x : (Sl ast_Node)} : lenA Mt.P 35 (slV x b) = some (.int .i64 (Sl.len x)) := len_sl Tryz.underlying35

theorem ia39 {H : Hp} {b : Nat} {x : (Sl ref05_Node)} {k : IntKind} {i : Int} : iaP Mt H 39 (slV x b) (.int k i) = (ck (Sl.l x).length i).map fun j => (.val (.pointer (some ⟨b, j * 12, none⟩)), H) := ia_sl Tryz.underlying39 T.sz97
theorem ln39 {b : Nat} {x : (Sl ref05_Node)} : lenA Mt.P 39 (slV x b) = some (.int .i64 (Sl.len x)) := len_sl Tryz.underlying39

theorem ia86 {H : Hp} {b : Nat} {x : (Sl (Arr Int 2))} {k : IntKind} {i : Int} : iaP Mt H 86 (slV x b) (.int k i) = (ck (Sl.l x).length i).map fun j => (.val (.pointer (some ⟨b, j * 2, none⟩)), H) := ia_sl Tryz.underlying86 T.sz90
theorem ln86 {b : Nat} {x : (Sl (Arr Int 2))} : lenA Mt.P 86 (slV x b) = some (.int .i64 (Sl.len x)) := len_sl Tryz.underlying86

theorem ia100 {H : Hp} {b : Nat} {x : (Sl Int)} {k : IntKind} {i : Int} : iaP Mt H 100 (slV x b) (.int k i) = (ck (Sl.l x).length i).map fun j => (.val (.pointer (some ⟨b, j * 1, none⟩)), H) := ia_sl Tryz.underlying100 T.sz3
theorem ln100 {b : Nat} {x : (Sl Int)} : lenA Mt.P 100 (slV x b) = some (.int .i64 (Sl.len x)) := len_sl Tryz.underlying100

theorem ia108 {H : Hp} {b : Nat} {x : (Sl facts_known)} {k : IntKind} {i : Int} : iaP Mt H 108 (slV x b) (.int k i) = (ck (Sl.l x).length i).map fun j => (.val (.pointer (some ⟨b, j * 9, none⟩)), H) := ia_sl Tryz.underlying108 T.sz107
theorem ln108 {b : Nat} {x : (Sl facts_known)} : lenA Mt.P 108 (slV x b) = some (.int .i64 (Sl.len x)) := len_sl Tryz.underlying108

theorem ia128 {H : Hp} {b : Nat} {x : (Sl Int)} {k : IntKind} {i : Int} : iaP Mt H 128 (slV x b) (.int k i) = (ck (Sl.l x).length i).map fun j => (.val (.pointer (some ⟨b, j * 1, none⟩)), H) := ia_sl Tryz.underlying128 T.sz5
theorem ln128 {b : Nat} {x : (Sl Int)} : lenA Mt.P 128 (slV x b) = some (.int .i64 (Sl.len x)) := len_sl Tryz.underlying128
theorem zs2 : zc Mt.P 2 = some ((cInt .i64) 0) := T.zc2
theorem zs3 : zc Mt.P 3 = some ((cInt .i64) 0) := T.zc3
theorem zs4 : zc Mt.P 4 = some (cBool false) := T.zc4
theorem zs5 : zc Mt.P 5 = some ((cInt .u8) 0) := T.zc5
theorem zs6 : zc Mt.P 6 = some ((cInt .u8) 0) := T.zc6
theorem zs9 : zc Mt.P 9 = some (cStr ⟨#[]⟩) := T.zc9
theorem zs10 : zc Mt.P 10 = some (cStr ⟨#[]⟩) := T.zc10
theorem zs11 : zc Mt.P 11 = some (cStr ⟨#[]⟩) := T.zc11
theorem zs12 : zc Mt.P 12 = some ((cInt .u64) 0) := T.zc12
theorem zs21 : zc Mt.P 21 = some ((cInt .i32) 0) := T.zc21
theorem zs22 : zc Mt.P 22 = some ((cInt .u64) 0) := T.zc22
theorem zs28 : zc Mt.P 28 = some ((cInt .i64) 0) := T.zc28
theorem zs167 : zc Mt.P 167 = some ((cInt .u64) 0) := T.zc167
theorem zs196 : zc Mt.P 196 = some ((cInt .i64) 0) := T.zc196
theorem zs203 : zc Mt.P 203 = some ((cInt .u32) 0) := T.zc203
theorem zs207 : zc Mt.P 207 = some ((cInt .u64) 0) := T.zc207
theorem zs236 : zc Mt.P 236 = some ((cInt .u8) 0) := T.zc236
theorem zs237 : zc Mt.P 237 = some ((cInt .u8) 0) := T.zc237
theorem zs240 : zc Mt.P 240 = some ((cInt .i32) 0) := T.zc240
theorem zs241 : zc Mt.P 241 = some ((cInt .i32) 0) := T.zc241
theorem eqt23 : EqT Tryz.prog 23 (fun x => vAgg ((cArr (n := 4) (cInt .u64)) x)) 2 := eqt_arr (e := 22) Tryz.underlying23 T.sz22 enc_int (eqt_int (k := .u64) Tryz.underlying22) (.inr ⟨T.ag22, fun _ => rfl⟩)
theorem eql23 {ox oy : Operand} {a b : (Arr Int 4)} : binA Mt.P .eql 23 ox oy (vAgg ((cArr (n := 4) (cInt .u64)) a)) (vAgg ((cArr (n := 4) (cInt .u64)) b)) = some (.bool (decide (a = b))) := eqA_agg (enc_arr (n := 4) enc_int) eqt23 (by decide) (by kernel_rfl)
theorem neq23 {ox oy : Operand} {a b : (Arr Int 4)} : binA Mt.P .neq 23 ox oy (vAgg ((cArr (n := 4) (cInt .u64)) a)) (vAgg ((cArr (n := 4) (cInt .u64)) b)) = some (.bool (!decide (a = b))) := neA_agg (enc_arr (n := 4) enc_int) eqt23 (by decide) (by kernel_rfl)
theorem eqt24 : EqT Tryz.prog 24 (fun x => vAgg (class_Set.c x)) 3 := fun d hd x y => by
  obtain ⟨d, rfl⟩ : ∃ m, d = m + 1 := ⟨d - 1, by omega⟩
  have e : decide (x = y) = (decide (x.f_W = y.f_W) && true) := by
    obtain ⟨a0⟩ := x; obtain ⟨b0⟩ := y
    simp [Bool.decide_and]
  rw [e]
  refine (pr_struct Tryz.underlying24 (by kernel_rfl) d _ _).trans ?_
  exact eqF_cons (by decide) (pr_part_agg T.ag23 (by rw [((enc_arr (n := 4) enc_int)).len]; exact T.sz23) (class_Set.seg0 _)) (pr_part_agg T.ag23 (by rw [((enc_arr (n := 4) enc_int)).len]; exact T.sz23) (class_Set.seg0 _)) (eqt23 d (by omega) _ _) (eqF_nil)
theorem eql24 {ox oy : Operand} {a b : class_Set} : binA Mt.P .eql 24 ox oy (vAgg (class_Set.c a)) (vAgg (class_Set.c b)) = some (.bool (decide (a = b))) := eqA_agg class_Set.enc eqt24 (by decide) (by kernel_rfl)
theorem neq24 {ox oy : Operand} {a b : class_Set} : binA Mt.P .neq 24 ox oy (vAgg (class_Set.c a)) (vAgg (class_Set.c b)) = some (.bool (!decide (a = b))) := neA_agg class_Set.enc eqt24 (by decide) (by kernel_rfl)
theorem eqt25 : EqT Tryz.prog 25 (fun x => vAgg (class_Set.c x)) 3 := fun d hd x y => by
  obtain ⟨d, rfl⟩ : ∃ m, d = m + 1 := ⟨d - 1, by omega⟩
  have e : decide (x = y) = (decide (x.f_W = y.f_W) && true) := by
    obtain ⟨a0⟩ := x; obtain ⟨b0⟩ := y
    simp [Bool.decide_and]
  rw [e]
  refine (pr_struct Tryz.underlying25 (by kernel_rfl) d _ _).trans ?_
  exact eqF_cons (by decide) (pr_part_agg T.ag23 (by rw [((enc_arr (n := 4) enc_int)).len]; exact T.sz23) (class_Set.seg0 _)) (pr_part_agg T.ag23 (by rw [((enc_arr (n := 4) enc_int)).len]; exact T.sz23) (class_Set.seg0 _)) (eqt23 d (by omega) _ _) (eqF_nil)
theorem eql25 {ox oy : Operand} {a b : class_Set} : binA Mt.P .eql 25 ox oy (vAgg (class_Set.c a)) (vAgg (class_Set.c b)) = some (.bool (decide (a = b))) := eqA_agg class_Set.enc eqt25 (by decide) (by kernel_rfl)
theorem neq25 {ox oy : Operand} {a b : class_Set} : binA Mt.P .neq 25 ox oy (vAgg (class_Set.c a)) (vAgg (class_Set.c b)) = some (.bool (!decide (a = b))) := neA_agg class_Set.enc eqt25 (by decide) (by kernel_rfl)
theorem eqt32 : EqT Tryz.prog 32 (fun x => vAgg (lex_Token.c x)) 4 := fun d hd x y => by
  obtain ⟨d, rfl⟩ : ∃ m, d = m + 1 := ⟨d - 1, by omega⟩
  have e : decide (x = y) = (decide (x.f_Kind = y.f_Kind) && (decide (x.f_Set = y.f_Set) && (decide (x.f_Min = y.f_Min) && (decide (x.f_Max = y.f_Max) && (decide (x.f_Mode = y.f_Mode) && (decide (x.f_N = y.f_N) && (decide (x.f_Flags = y.f_Flags) && true))))))) := by
    obtain ⟨a0, a1, a2, a3, a4, a5, a6⟩ := x; obtain ⟨b0, b1, b2, b3, b4, b5, b6⟩ := y
    simp [Bool.decide_and]
  rw [e]
  refine (pr_struct Tryz.underlying32 (by kernel_rfl) d _ _).trans ?_
  exact eqF_cons (by decide) (pr_part_one T.ag3 (lex_Token.seg0 _)) (pr_part_one T.ag3 (lex_Token.seg0 _)) ((eqt_int (k := .i64) Tryz.underlying3) d (by omega) _ _) (eqF_cons (by decide) (pr_part_agg T.ag25 (by rw [(class_Set.enc).len]; exact T.sz25) (lex_Token.seg1 _)) (pr_part_agg T.ag25 (by rw [(class_Set.enc).len]; exact T.sz25) (lex_Token.seg1 _)) (eqt25 d (by omega) _ _) (eqF_cons (by decide) (pr_part_one T.ag3 (lex_Token.seg2 _)) (pr_part_one T.ag3 (lex_Token.seg2 _)) ((eqt_int (k := .i64) Tryz.underlying3) d (by omega) _ _) (eqF_cons (by decide) (pr_part_one T.ag3 (lex_Token.seg3 _)) (pr_part_one T.ag3 (lex_Token.seg3 _)) ((eqt_int (k := .i64) Tryz.underlying3) d (by omega) _ _) (eqF_cons (by decide) (pr_part_one T.ag3 (lex_Token.seg4 _)) (pr_part_one T.ag3 (lex_Token.seg4 _)) ((eqt_int (k := .i64) Tryz.underlying3) d (by omega) _ _) (eqF_cons (by decide) (pr_part_one T.ag3 (lex_Token.seg5 _)) (pr_part_one T.ag3 (lex_Token.seg5 _)) ((eqt_int (k := .i64) Tryz.underlying3) d (by omega) _ _) (eqF_cons (by decide) (pr_part_one T.ag9 (lex_Token.seg6 _)) (pr_part_one T.ag9 (lex_Token.seg6 _)) ((eqt_str Tryz.underlying9) d (by omega) _ _) (eqF_nil)))))))
theorem eql32 {ox oy : Operand} {a b : lex_Token} : binA Mt.P .eql 32 ox oy (vAgg (lex_Token.c a)) (vAgg (lex_Token.c b)) = some (.bool (decide (a = b))) := eqA_agg lex_Token.enc eqt32 (by decide) (by kernel_rfl)
theorem neq32 {ox oy : Operand} {a b : lex_Token} : binA Mt.P .neq 32 ox oy (vAgg (lex_Token.c a)) (vAgg (lex_Token.c b)) = some (.bool (!decide (a = b))) := neA_agg lex_Token.enc eqt32 (by decide) (by kernel_rfl)
theorem eqt33 : EqT Tryz.prog 33 (fun x => vAgg (lex_Token.c x)) 4 := fun d hd x y => by
  obtain ⟨d, rfl⟩ : ∃ m, d = m + 1 := ⟨d - 1, by omega⟩
  have e : decide (x = y) = (decide (x.f_Kind = y.f_Kind) && (decide (x.f_Set = y.f_Set) && (decide (x.f_Min = y.f_Min) && (decide (x.f_Max = y.f_Max) && (decide (x.f_Mode = y.f_Mode) && (decide (x.f_N = y.f_N) && (decide (x.f_Flags = y.f_Flags) && true))))))) := by
    obtain ⟨a0, a1, a2, a3, a4, a5, a6⟩ := x; obtain ⟨b0, b1, b2, b3, b4, b5, b6⟩ := y
    simp [Bool.decide_and]
  rw [e]
  refine (pr_struct Tryz.underlying33 (by kernel_rfl) d _ _).trans ?_
  exact eqF_cons (by decide) (pr_part_one T.ag3 (lex_Token.seg0 _)) (pr_part_one T.ag3 (lex_Token.seg0 _)) ((eqt_int (k := .i64) Tryz.underlying3) d (by omega) _ _) (eqF_cons (by decide) (pr_part_agg T.ag25 (by rw [(class_Set.enc).len]; exact T.sz25) (lex_Token.seg1 _)) (pr_part_agg T.ag25 (by rw [(class_Set.enc).len]; exact T.sz25) (lex_Token.seg1 _)) (eqt25 d (by omega) _ _) (eqF_cons (by decide) (pr_part_one T.ag3 (lex_Token.seg2 _)) (pr_part_one T.ag3 (lex_Token.seg2 _)) ((eqt_int (k := .i64) Tryz.underlying3) d (by omega) _ _) (eqF_cons (by decide) (pr_part_one T.ag3 (lex_Token.seg3 _)) (pr_part_one T.ag3 (lex_Token.seg3 _)) ((eqt_int (k := .i64) Tryz.underlying3) d (by omega) _ _) (eqF_cons (by decide) (pr_part_one T.ag3 (lex_Token.seg4 _)) (pr_part_one T.ag3 (lex_Token.seg4 _)) ((eqt_int (k := .i64) Tryz.underlying3) d (by omega) _ _) (eqF_cons (by decide) (pr_part_one T.ag3 (lex_Token.seg5 _)) (pr_part_one T.ag3 (lex_Token.seg5 _)) ((eqt_int (k := .i64) Tryz.underlying3) d (by omega) _ _) (eqF_cons (by decide) (pr_part_one T.ag9 (lex_Token.seg6 _)) (pr_part_one T.ag9 (lex_Token.seg6 _)) ((eqt_str Tryz.underlying9) d (by omega) _ _) (eqF_nil)))))))
theorem eql33 {ox oy : Operand} {a b : lex_Token} : binA Mt.P .eql 33 ox oy (vAgg (lex_Token.c a)) (vAgg (lex_Token.c b)) = some (.bool (decide (a = b))) := eqA_agg lex_Token.enc eqt33 (by decide) (by kernel_rfl)
theorem neq33 {ox oy : Operand} {a b : lex_Token} : binA Mt.P .neq 33 ox oy (vAgg (lex_Token.c a)) (vAgg (lex_Token.c b)) = some (.bool (!decide (a = b))) := neA_agg lex_Token.enc eqt33 (by decide) (by kernel_rfl)
theorem eqt53 : EqT Tryz.prog 53 (fun x => vAgg (facts_Facts.c x)) 4 := fun d hd x y => by
  obtain ⟨d, rfl⟩ : ∃ m, d = m + 1 := ⟨d - 1, by omega⟩
  have e : decide (x = y) = (decide (x.f_First = y.f_First) && (decide (x.f_Open = y.f_Open) && (decide (x.f_Fast = y.f_Fast) && (decide (x.f_Prefix = y.f_Prefix) && true)))) := by
    obtain ⟨a0, a1, a2, a3⟩ := x; obtain ⟨b0, b1, b2, b3⟩ := y
    simp [Bool.decide_and]
  rw [e]
  refine (pr_struct Tryz.underlying53 (by kernel_rfl) d _ _).trans ?_
  exact eqF_cons (by decide) (pr_part_agg T.ag25 (by rw [(class_Set.enc).len]; exact T.sz25) (facts_Facts.seg0 _)) (pr_part_agg T.ag25 (by rw [(class_Set.enc).len]; exact T.sz25) (facts_Facts.seg0 _)) (eqt25 d (by omega) _ _) (eqF_cons (by decide) (pr_part_one T.ag4 (facts_Facts.seg1 _)) (pr_part_one T.ag4 (facts_Facts.seg1 _)) ((eqt_bool Tryz.underlying4) d (by omega) _ _) (eqF_cons (by decide) (pr_part_one T.ag4 (facts_Facts.seg2 _)) (pr_part_one T.ag4 (facts_Facts.seg2 _)) ((eqt_bool Tryz.underlying4) d (by omega) _ _) (eqF_cons (by decide) (pr_part_one T.ag9 (facts_Facts.seg3 _)) (pr_part_one T.ag9 (facts_Facts.seg3 _)) ((eqt_str Tryz.underlying9) d (by omega) _ _) (eqF_nil))))
theorem eql53 {ox oy : Operand} {a b : facts_Facts} : binA Mt.P .eql 53 ox oy (vAgg (facts_Facts.c a)) (vAgg (facts_Facts.c b)) = some (.bool (decide (a = b))) := eqA_agg facts_Facts.enc eqt53 (by decide) (by kernel_rfl)
theorem neq53 {ox oy : Operand} {a b : facts_Facts} : binA Mt.P .neq 53 ox oy (vAgg (facts_Facts.c a)) (vAgg (facts_Facts.c b)) = some (.bool (!decide (a = b))) := neA_agg facts_Facts.enc eqt53 (by decide) (by kernel_rfl)
theorem eqt54 : EqT Tryz.prog 54 (fun x => vAgg (facts_Facts.c x)) 4 := fun d hd x y => by
  obtain ⟨d, rfl⟩ : ∃ m, d = m + 1 := ⟨d - 1, by omega⟩
  have e : decide (x = y) = (decide (x.f_First = y.f_First) && (decide (x.f_Open = y.f_Open) && (decide (x.f_Fast = y.f_Fast) && (decide (x.f_Prefix = y.f_Prefix) && true)))) := by
    obtain ⟨a0, a1, a2, a3⟩ := x; obtain ⟨b0, b1, b2, b3⟩ := y
    simp [Bool.decide_and]
  rw [e]
  refine (pr_struct Tryz.underlying54 (by kernel_rfl) d _ _).trans ?_
  exact eqF_cons (by decide) (pr_part_agg T.ag25 (by rw [(class_Set.enc).len]; exact T.sz25) (facts_Facts.seg0 _)) (pr_part_agg T.ag25 (by rw [(class_Set.enc).len]; exact T.sz25) (facts_Facts.seg0 _)) (eqt25 d (by omega) _ _) (eqF_cons (by decide) (pr_part_one T.ag4 (facts_Facts.seg1 _)) (pr_part_one T.ag4 (facts_Facts.seg1 _)) ((eqt_bool Tryz.underlying4) d (by omega) _ _) (eqF_cons (by decide) (pr_part_one T.ag4 (facts_Facts.seg2 _)) (pr_part_one T.ag4 (facts_Facts.seg2 _)) ((eqt_bool Tryz.underlying4) d (by omega) _ _) (eqF_cons (by decide) (pr_part_one T.ag9 (facts_Facts.seg3 _)) (pr_part_one T.ag9 (facts_Facts.seg3 _)) ((eqt_str Tryz.underlying9) d (by omega) _ _) (eqF_nil))))
theorem eql54 {ox oy : Operand} {a b : facts_Facts} : binA Mt.P .eql 54 ox oy (vAgg (facts_Facts.c a)) (vAgg (facts_Facts.c b)) = some (.bool (decide (a = b))) := eqA_agg facts_Facts.enc eqt54 (by decide) (by kernel_rfl)
theorem neq54 {ox oy : Operand} {a b : facts_Facts} : binA Mt.P .neq 54 ox oy (vAgg (facts_Facts.c a)) (vAgg (facts_Facts.c b)) = some (.bool (!decide (a = b))) := neA_agg facts_Facts.enc eqt54 (by decide) (by kernel_rfl)
theorem eqt57 : EqT Tryz.prog 57 (fun x => vAgg ((cArr (n := 256) cBool) x)) 2 := eqt_arr (e := 4) Tryz.underlying57 T.sz4 enc_bool (eqt_bool Tryz.underlying4) (.inr ⟨T.ag4, fun _ => rfl⟩)
theorem eql57 {ox oy : Operand} {a b : (Arr Bool 256)} : binA Mt.P .eql 57 ox oy (vAgg ((cArr (n := 256) cBool) a)) (vAgg ((cArr (n := 256) cBool) b)) = some (.bool (decide (a = b))) := eqA_agg (enc_arr (n := 256) enc_bool) eqt57 (by decide) (by kernel_rfl)
theorem neq57 {ox oy : Operand} {a b : (Arr Bool 256)} : binA Mt.P .neq 57 ox oy (vAgg ((cArr (n := 256) cBool) a)) (vAgg ((cArr (n := 256) cBool) b)) = some (.bool (!decide (a = b))) := neA_agg (enc_arr (n := 256) enc_bool) eqt57 (by decide) (by kernel_rfl)
theorem eqt58 : EqT Tryz.prog 58 (fun x => vAgg (ref01_Set.c x)) 3 := fun d hd x y => by
  obtain ⟨d, rfl⟩ : ∃ m, d = m + 1 := ⟨d - 1, by omega⟩
  have e : decide (x = y) = (decide (x.f_In = y.f_In) && true) := by
    obtain ⟨a0⟩ := x; obtain ⟨b0⟩ := y
    simp [Bool.decide_and]
  rw [e]
  refine (pr_struct Tryz.underlying58 (by kernel_rfl) d _ _).trans ?_
  exact eqF_cons (by decide) (pr_part_agg T.ag57 (by rw [((enc_arr (n := 256) enc_bool)).len]; exact T.sz57) (ref01_Set.seg0 _)) (pr_part_agg T.ag57 (by rw [((enc_arr (n := 256) enc_bool)).len]; exact T.sz57) (ref01_Set.seg0 _)) (eqt57 d (by omega) _ _) (eqF_nil)
theorem eql58 {ox oy : Operand} {a b : ref01_Set} : binA Mt.P .eql 58 ox oy (vAgg (ref01_Set.c a)) (vAgg (ref01_Set.c b)) = some (.bool (decide (a = b))) := eqA_agg ref01_Set.enc eqt58 (by decide) (by kernel_rfl)
theorem neq58 {ox oy : Operand} {a b : ref01_Set} : binA Mt.P .neq 58 ox oy (vAgg (ref01_Set.c a)) (vAgg (ref01_Set.c b)) = some (.bool (!decide (a = b))) := neA_agg ref01_Set.enc eqt58 (by decide) (by kernel_rfl)
theorem eqt59 : EqT Tryz.prog 59 (fun x => vAgg (ref01_Set.c x)) 3 := fun d hd x y => by
  obtain ⟨d, rfl⟩ : ∃ m, d = m + 1 := ⟨d - 1, by omega⟩
  have e : decide (x = y) = (decide (x.f_In = y.f_In) && true) := by
    obtain ⟨a0⟩ := x; obtain ⟨b0⟩ := y
    simp [Bool.decide_and]
  rw [e]
  refine (pr_struct Tryz.underlying59 (by kernel_rfl) d _ _).trans ?_
  exact eqF_cons (by decide) (pr_part_agg T.ag57 (by rw [((enc_arr (n := 256) enc_bool)).len]; exact T.sz57) (ref01_Set.seg0 _)) (pr_part_agg T.ag57 (by rw [((enc_arr (n := 256) enc_bool)).len]; exact T.sz57) (ref01_Set.seg0 _)) (eqt57 d (by omega) _ _) (eqF_nil)
theorem eql59 {ox oy : Operand} {a b : ref01_Set} : binA Mt.P .eql 59 ox oy (vAgg (ref01_Set.c a)) (vAgg (ref01_Set.c b)) = some (.bool (decide (a = b))) := eqA_agg ref01_Set.enc eqt59 (by decide) (by kernel_rfl)
theorem neq59 {ox oy : Operand} {a b : ref01_Set} : binA Mt.P .neq 59 ox oy (vAgg (ref01_Set.c a)) (vAgg (ref01_Set.c b)) = some (.bool (!decide (a = b))) := neA_agg ref01_Set.enc eqt59 (by decide) (by kernel_rfl)
theorem eqt60 : EqT Tryz.prog 60 (fun x => vAgg (ref09_Facts.c x)) 4 := fun d hd x y => by
  obtain ⟨d, rfl⟩ : ∃ m, d = m + 1 := ⟨d - 1, by omega⟩
  have e : decide (x = y) = (decide (x.f_First = y.f_First) && (decide (x.f_Open = y.f_Open) && (decide (x.f_Fast = y.f_Fast) && (decide (x.f_Prefix = y.f_Prefix) && true)))) := by
    obtain ⟨a0, a1, a2, a3⟩ := x; obtain ⟨b0, b1, b2, b3⟩ := y
    simp [Bool.decide_and]
  rw [e]
  refine (pr_struct Tryz.underlying60 (by kernel_rfl) d _ _).trans ?_
  exact eqF_cons (by decide) (pr_part_agg T.ag59 (by rw [(ref01_Set.enc).len]; exact T.sz59) (ref09_Facts.seg0 _)) (pr_part_agg T.ag59 (by rw [(ref01_Set.enc).len]; exact T.sz59) (ref09_Facts.seg0 _)) (eqt59 d (by omega) _ _) (eqF_cons (by decide) (pr_part_one T.ag4 (ref09_Facts.seg1 _)) (pr_part_one T.ag4 (ref09_Facts.seg1 _)) ((eqt_bool Tryz.underlying4) d (by omega) _ _) (eqF_cons (by decide) (pr_part_one T.ag4 (ref09_Facts.seg2 _)) (pr_part_one T.ag4 (ref09_Facts.seg2 _)) ((eqt_bool Tryz.underlying4) d (by omega) _ _) (eqF_cons (by decide) (pr_part_one T.ag9 (ref09_Facts.seg3 _)) (pr_part_one T.ag9 (ref09_Facts.seg3 _)) ((eqt_str Tryz.underlying9) d (by omega) _ _) (eqF_nil))))
theorem eql60 {ox oy : Operand} {a b : ref09_Facts} : binA Mt.P .eql 60 ox oy (vAgg (ref09_Facts.c a)) (vAgg (ref09_Facts.c b)) = some (.bool (decide (a = b))) := eqA_agg ref09_Facts.enc eqt60 (by decide) (by kernel_rfl)
theorem neq60 {ox oy : Operand} {a b : ref09_Facts} : binA Mt.P .neq 60 ox oy (vAgg (ref09_Facts.c a)) (vAgg (ref09_Facts.c b)) = some (.bool (!decide (a = b))) := neA_agg ref09_Facts.enc eqt60 (by decide) (by kernel_rfl)
theorem eqt61 : EqT Tryz.prog 61 (fun x => vAgg (ref09_Facts.c x)) 4 := fun d hd x y => by
  obtain ⟨d, rfl⟩ : ∃ m, d = m + 1 := ⟨d - 1, by omega⟩
  have e : decide (x = y) = (decide (x.f_First = y.f_First) && (decide (x.f_Open = y.f_Open) && (decide (x.f_Fast = y.f_Fast) && (decide (x.f_Prefix = y.f_Prefix) && true)))) := by
    obtain ⟨a0, a1, a2, a3⟩ := x; obtain ⟨b0, b1, b2, b3⟩ := y
    simp [Bool.decide_and]
  rw [e]
  refine (pr_struct Tryz.underlying61 (by kernel_rfl) d _ _).trans ?_
  exact eqF_cons (by decide) (pr_part_agg T.ag59 (by rw [(ref01_Set.enc).len]; exact T.sz59) (ref09_Facts.seg0 _)) (pr_part_agg T.ag59 (by rw [(ref01_Set.enc).len]; exact T.sz59) (ref09_Facts.seg0 _)) (eqt59 d (by omega) _ _) (eqF_cons (by decide) (pr_part_one T.ag4 (ref09_Facts.seg1 _)) (pr_part_one T.ag4 (ref09_Facts.seg1 _)) ((eqt_bool Tryz.underlying4) d (by omega) _ _) (eqF_cons (by decide) (pr_part_one T.ag4 (ref09_Facts.seg2 _)) (pr_part_one T.ag4 (ref09_Facts.seg2 _)) ((eqt_bool Tryz.underlying4) d (by omega) _ _) (eqF_cons (by decide) (pr_part_one T.ag9 (ref09_Facts.seg3 _)) (pr_part_one T.ag9 (ref09_Facts.seg3 _)) ((eqt_str Tryz.underlying9) d (by omega) _ _) (eqF_nil))))
theorem eql61 {ox oy : Operand} {a b : ref09_Facts} : binA Mt.P .eql 61 ox oy (vAgg (ref09_Facts.c a)) (vAgg (ref09_Facts.c b)) = some (.bool (decide (a = b))) := eqA_agg ref09_Facts.enc eqt61 (by decide) (by kernel_rfl)
theorem neq61 {ox oy : Operand} {a b : ref09_Facts} : binA Mt.P .neq 61 ox oy (vAgg (ref09_Facts.c a)) (vAgg (ref09_Facts.c b)) = some (.bool (!decide (a = b))) := neA_agg ref09_Facts.enc eqt61 (by decide) (by kernel_rfl)
theorem eqt71 : EqT Tryz.prog 71 (fun x => vAgg (ast_Node.c x)) 4 := fun d hd x y => by
  obtain ⟨d, rfl⟩ : ∃ m, d = m + 1 := ⟨d - 1, by omega⟩
  have e : decide (x = y) = (decide (x.f_Kind = y.f_Kind) && (decide (x.f_A = y.f_A) && (decide (x.f_B = y.f_B) && (decide (x.f_Set = y.f_Set) && (decide (x.f_Min = y.f_Min) && (decide (x.f_Max = y.f_Max) && (decide (x.f_Mode = y.f_Mode) && (decide (x.f_N = y.f_N) && (decide (x.f_Fold = y.f_Fold) && true))))))))) := by
    obtain ⟨a0, a1, a2, a3, a4, a5, a6, a7, a8⟩ := x; obtain ⟨b0, b1, b2, b3, b4, b5, b6, b7, b8⟩ := y
    simp [Bool.decide_and]
  rw [e]
  refine (pr_struct Tryz.underlying71 (by kernel_rfl) d _ _).trans ?_
  exact eqF_cons (by decide) (pr_part_one T.ag3 (ast_Node.seg0 _)) (pr_part_one T.ag3 (ast_Node.seg0 _)) ((eqt_int (k := .i64) Tryz.underlying3) d (by omega) _ _) (eqF_cons (by decide) (pr_part_one T.ag3 (ast_Node.seg1 _)) (pr_part_one T.ag3 (ast_Node.seg1 _)) ((eqt_int (k := .i64) Tryz.underlying3) d (by omega) _ _) (eqF_cons (by decide) (pr_part_one T.ag3 (ast_Node.seg2 _)) (pr_part_one T.ag3 (ast_Node.seg2 _)) ((eqt_int (k := .i64) Tryz.underlying3) d (by omega) _ _) (eqF_cons (by decide) (pr_part_agg T.ag25 (by rw [(class_Set.enc).len]; exact T.sz25) (ast_Node.seg3 _)) (pr_part_agg T.ag25 (by rw [(class_Set.enc).len]; exact T.sz25) (ast_Node.seg3 _)) (eqt25 d (by omega) _ _) (eqF_cons (by decide) (pr_part_one T.ag3 (ast_Node.seg4 _)) (pr_part_one T.ag3 (ast_Node.seg4 _)) ((eqt_int (k := .i64) Tryz.underlying3) d (by omega) _ _) (eqF_cons (by decide) (pr_part_one T.ag3 (ast_Node.seg5 _)) (pr_part_one T.ag3 (ast_Node.seg5 _)) ((eqt_int (k := .i64) Tryz.underlying3) d (by omega) _ _) (eqF_cons (by decide) (pr_part_one T.ag3 (ast_Node.seg6 _)) (pr_part_one T.ag3 (ast_Node.seg6 _)) ((eqt_int (k := .i64) Tryz.underlying3) d (by omega) _ _) (eqF_cons (by decide) (pr_part_one T.ag3 (ast_Node.seg7 _)) (pr_part_one T.ag3 (ast_Node.seg7 _)) ((eqt_int (k := .i64) Tryz.underlying3) d (by omega) _ _) (eqF_cons (by decide) (pr_part_one T.ag4 (ast_Node.seg8 _)) (pr_part_one T.ag4 (ast_Node.seg8 _)) ((eqt_bool Tryz.underlying4) d (by omega) _ _) (eqF_nil)))))))))
theorem eql71 {ox oy : Operand} {a b : ast_Node} : binA Mt.P .eql 71 ox oy (vAgg (ast_Node.c a)) (vAgg (ast_Node.c b)) = some (.bool (decide (a = b))) := eqA_agg ast_Node.enc eqt71 (by decide) (by kernel_rfl)
theorem neq71 {ox oy : Operand} {a b : ast_Node} : binA Mt.P .neq 71 ox oy (vAgg (ast_Node.c a)) (vAgg (ast_Node.c b)) = some (.bool (!decide (a = b))) := neA_agg ast_Node.enc eqt71 (by decide) (by kernel_rfl)
theorem eqt72 : EqT Tryz.prog 72 (fun x => vAgg (ast_Node.c x)) 4 := fun d hd x y => by
  obtain ⟨d, rfl⟩ : ∃ m, d = m + 1 := ⟨d - 1, by omega⟩
  have e : decide (x = y) = (decide (x.f_Kind = y.f_Kind) && (decide (x.f_A = y.f_A) && (decide (x.f_B = y.f_B) && (decide (x.f_Set = y.f_Set) && (decide (x.f_Min = y.f_Min) && (decide (x.f_Max = y.f_Max) && (decide (x.f_Mode = y.f_Mode) && (decide (x.f_N = y.f_N) && (decide (x.f_Fold = y.f_Fold) && true))))))))) := by
    obtain ⟨a0, a1, a2, a3, a4, a5, a6, a7, a8⟩ := x; obtain ⟨b0, b1, b2, b3, b4, b5, b6, b7, b8⟩ := y
    simp [Bool.decide_and]
  rw [e]
  refine (pr_struct Tryz.underlying72 (by kernel_rfl) d _ _).trans ?_
  exact eqF_cons (by decide) (pr_part_one T.ag3 (ast_Node.seg0 _)) (pr_part_one T.ag3 (ast_Node.seg0 _)) ((eqt_int (k := .i64) Tryz.underlying3) d (by omega) _ _) (eqF_cons (by decide) (pr_part_one T.ag3 (ast_Node.seg1 _)) (pr_part_one T.ag3 (ast_Node.seg1 _)) ((eqt_int (k := .i64) Tryz.underlying3) d (by omega) _ _) (eqF_cons (by decide) (pr_part_one T.ag3 (ast_Node.seg2 _)) (pr_part_one T.ag3 (ast_Node.seg2 _)) ((eqt_int (k := .i64) Tryz.underlying3) d (by omega) _ _) (eqF_cons (by decide) (pr_part_agg T.ag25 (by rw [(class_Set.enc).len]; exact T.sz25) (ast_Node.seg3 _)) (pr_part_agg T.ag25 (by rw [(class_Set.enc).len]; exact T.sz25) (ast_Node.seg3 _)) (eqt25 d (by omega) _ _) (eqF_cons (by decide) (pr_part_one T.ag3 (ast_Node.seg4 _)) (pr_part_one T.ag3 (ast_Node.seg4 _)) ((eqt_int (k := .i64) Tryz.underlying3) d (by omega) _ _) (eqF_cons (by decide) (pr_part_one T.ag3 (ast_Node.seg5 _)) (pr_part_one T.ag3 (ast_Node.seg5 _)) ((eqt_int (k := .i64) Tryz.underlying3) d (by omega) _ _) (eqF_cons (by decide) (pr_part_one T.ag3 (ast_Node.seg6 _)) (pr_part_one T.ag3 (ast_Node.seg6 _)) ((eqt_int (k := .i64) Tryz.underlying3) d (by omega) _ _) (eqF_cons (by decide) (pr_part_one T.ag3 (ast_Node.seg7 _)) (pr_part_one T.ag3 (ast_Node.seg7 _)) ((eqt_int (k := .i64) Tryz.underlying3) d (by omega) _ _) (eqF_cons (by decide) (pr_part_one T.ag4 (ast_Node.seg8 _)) (pr_part_one T.ag4 (ast_Node.seg8 _)) ((eqt_bool Tryz.underlying4) d (by omega) _ _) (eqF_nil)))))))))
theorem eql72 {ox oy : Operand} {a b : ast_Node} : binA Mt.P .eql 72 ox oy (vAgg (ast_Node.c a)) (vAgg (ast_Node.c b)) = some (.bool (decide (a = b))) := eqA_agg ast_Node.enc eqt72 (by decide) (by kernel_rfl)
theorem neq72 {ox oy : Operand} {a b : ast_Node} : binA Mt.P .neq 72 ox oy (vAgg (ast_Node.c a)) (vAgg (ast_Node.c b)) = some (.bool (!decide (a = b))) := neA_agg ast_Node.enc eqt72 (by decide) (by kernel_rfl)
theorem eqt96 : EqT Tryz.prog 96 (fun x => vAgg (ref05_Node.c x)) 3 := fun d hd x y => by
  obtain ⟨d, rfl⟩ : ∃ m, d = m + 1 := ⟨d - 1, by omega⟩
  have e : decide (x = y) = (decide (x.f_Kind = y.f_Kind) && (decide (x.f_A = y.f_A) && (decide (x.f_B = y.f_B) && (decide (x.f_Set = y.f_Set) && (decide (x.f_Min = y.f_Min) && (decide (x.f_Max = y.f_Max) && (decide (x.f_Mode = y.f_Mode) && (decide (x.f_N = y.f_N) && (decide (x.f_Fold = y.f_Fold) && true))))))))) := by
    obtain ⟨a0, a1, a2, a3, a4, a5, a6, a7, a8⟩ := x; obtain ⟨b0, b1, b2, b3, b4, b5, b6, b7, b8⟩ := y
    simp [Bool.decide_and]
  rw [e]
  refine (pr_struct Tryz.underlying96 (by kernel_rfl) d _ _).trans ?_
  exact eqF_cons (by decide) (pr_part_one T.ag3 (ref05_Node.seg0 _)) (pr_part_one T.ag3 (ref05_Node.seg0 _)) ((eqt_int (k := .i64) Tryz.underlying3) d (by omega) _ _) (eqF_cons (by decide) (pr_part_one T.ag3 (ref05_Node.seg1 _)) (pr_part_one T.ag3 (ref05_Node.seg1 _)) ((eqt_int (k := .i64) Tryz.underlying3) d (by omega) _ _) (eqF_cons (by decide) (pr_part_one T.ag3 (ref05_Node.seg2 _)) (pr_part_one T.ag3 (ref05_Node.seg2 _)) ((eqt_int (k := .i64) Tryz.underlying3) d (by omega) _ _) (eqF_cons (by decide) (pr_part_agg T.ag23 (by rw [((enc_arr (n := 4) enc_int)).len]; exact T.sz23) (ref05_Node.seg3 _)) (pr_part_agg T.ag23 (by rw [((enc_arr (n := 4) enc_int)).len]; exact T.sz23) (ref05_Node.seg3 _)) (eqt23 d (by omega) _ _) (eqF_cons (by decide) (pr_part_one T.ag3 (ref05_Node.seg4 _)) (pr_part_one T.ag3 (ref05_Node.seg4 _)) ((eqt_int (k := .i64) Tryz.underlying3) d (by omega) _ _) (eqF_cons (by decide) (pr_part_one T.ag3 (ref05_Node.seg5 _)) (pr_part_one T.ag3 (ref05_Node.seg5 _)) ((eqt_int (k := .i64) Tryz.underlying3) d (by omega) _ _) (eqF_cons (by decide) (pr_part_one T.ag3 (ref05_Node.seg6 _)) (pr_part_one T.ag3 (ref05_Node.seg6 _)) ((eqt_int (k := .i64) Tryz.underlying3) d (by omega) _ _) (eqF_cons (by decide) (pr_part_one T.ag3 (ref05_Node.seg7 _)) (pr_part_one T.ag3 (ref05_Node.seg7 _)) ((eqt_int (k := .i64) Tryz.underlying3) d (by omega) _ _) (eqF_cons (by decide) (pr_part_one T.ag4 (ref05_Node.seg8 _)) (pr_part_one T.ag4 (ref05_Node.seg8 _)) ((eqt_bool Tryz.underlying4) d (by omega) _ _) (eqF_nil)))))))))
theorem eql96 {ox oy : Operand} {a b : ref05_Node} : binA Mt.P .eql 96 ox oy (vAgg (ref05_Node.c a)) (vAgg (ref05_Node.c b)) = some (.bool (decide (a = b))) := eqA_agg ref05_Node.enc eqt96 (by decide) (by kernel_rfl)
theorem neq96 {ox oy : Operand} {a b : ref05_Node} : binA Mt.P .neq 96 ox oy (vAgg (ref05_Node.c a)) (vAgg (ref05_Node.c b)) = some (.bool (!decide (a = b))) := neA_agg ref05_Node.enc eqt96 (by decide) (by kernel_rfl)
theorem eqt97 : EqT Tryz.prog 97 (fun x => vAgg (ref05_Node.c x)) 3 := fun d hd x y => by
  obtain ⟨d, rfl⟩ : ∃ m, d = m + 1 := ⟨d - 1, by omega⟩
  have e : decide (x = y) = (decide (x.f_Kind = y.f_Kind) && (decide (x.f_A = y.f_A) && (decide (x.f_B = y.f_B) && (decide (x.f_Set = y.f_Set) && (decide (x.f_Min = y.f_Min) && (decide (x.f_Max = y.f_Max) && (decide (x.f_Mode = y.f_Mode) && (decide (x.f_N = y.f_N) && (decide (x.f_Fold = y.f_Fold) && true))))))))) := by
    obtain ⟨a0, a1, a2, a3, a4, a5, a6, a7, a8⟩ := x; obtain ⟨b0, b1, b2, b3, b4, b5, b6, b7, b8⟩ := y
    simp [Bool.decide_and]
  rw [e]
  refine (pr_struct Tryz.underlying97 (by kernel_rfl) d _ _).trans ?_
  exact eqF_cons (by decide) (pr_part_one T.ag3 (ref05_Node.seg0 _)) (pr_part_one T.ag3 (ref05_Node.seg0 _)) ((eqt_int (k := .i64) Tryz.underlying3) d (by omega) _ _) (eqF_cons (by decide) (pr_part_one T.ag3 (ref05_Node.seg1 _)) (pr_part_one T.ag3 (ref05_Node.seg1 _)) ((eqt_int (k := .i64) Tryz.underlying3) d (by omega) _ _) (eqF_cons (by decide) (pr_part_one T.ag3 (ref05_Node.seg2 _)) (pr_part_one T.ag3 (ref05_Node.seg2 _)) ((eqt_int (k := .i64) Tryz.underlying3) d (by omega) _ _) (eqF_cons (by decide) (pr_part_agg T.ag23 (by rw [((enc_arr (n := 4) enc_int)).len]; exact T.sz23) (ref05_Node.seg3 _)) (pr_part_agg T.ag23 (by rw [((enc_arr (n := 4) enc_int)).len]; exact T.sz23) (ref05_Node.seg3 _)) (eqt23 d (by omega) _ _) (eqF_cons (by decide) (pr_part_one T.ag3 (ref05_Node.seg4 _)) (pr_part_one T.ag3 (ref05_Node.seg4 _)) ((eqt_int (k := .i64) Tryz.underlying3) d (by omega) _ _) (eqF_cons (by decide) (pr_part_one T.ag3 (ref05_Node.seg5 _)) (pr_part_one T.ag3 (ref05_Node.seg5 _)) ((eqt_int (k := .i64) Tryz.underlying3) d (by omega) _ _) (eqF_cons (by decide) (pr_part_one T.ag3 (ref05_Node.seg6 _)) (pr_part_one T.ag3 (ref05_Node.seg6 _)) ((eqt_int (k := .i64) Tryz.underlying3) d (by omega) _ _) (eqF_cons (by decide) (pr_part_one T.ag3 (ref05_Node.seg7 _)) (pr_part_one T.ag3 (ref05_Node.seg7 _)) ((eqt_int (k := .i64) Tryz.underlying3) d (by omega) _ _) (eqF_cons (by decide) (pr_part_one T.ag4 (ref05_Node.seg8 _)) (pr_part_one T.ag4 (ref05_Node.seg8 _)) ((eqt_bool Tryz.underlying4) d (by omega) _ _) (eqF_nil)))))))))
theorem eql97 {ox oy : Operand} {a b : ref05_Node} : binA Mt.P .eql 97 ox oy (vAgg (ref05_Node.c a)) (vAgg (ref05_Node.c b)) = some (.bool (decide (a = b))) := eqA_agg ref05_Node.enc eqt97 (by decide) (by kernel_rfl)
theorem neq97 {ox oy : Operand} {a b : ref05_Node} : binA Mt.P .neq 97 ox oy (vAgg (ref05_Node.c a)) (vAgg (ref05_Node.c b)) = some (.bool (!decide (a = b))) := neA_agg ref05_Node.enc eqt97 (by decide) (by kernel_rfl)
theorem eqt106 : EqT Tryz.prog 106 (fun x => vAgg (facts_known.c x)) 5 := fun d hd x y => by
  obtain ⟨d, rfl⟩ : ∃ m, d = m + 1 := ⟨d - 1, by omega⟩
  have e : decide (x = y) = (decide (x.f_Facts = y.f_Facts) && (decide (x.f_whole = y.f_whole) && (decide (x.f_none = y.f_none) && true))) := by
    obtain ⟨a0, a1, a2⟩ := x; obtain ⟨b0, b1, b2⟩ := y
    simp [Bool.decide_and]
  rw [e]
  refine (pr_struct Tryz.underlying106 (by kernel_rfl) d _ _).trans ?_
  exact eqF_cons (by decide) (pr_part_agg T.ag54 (by rw [(facts_Facts.enc).len]; exact T.sz54) (facts_known.seg0 _)) (pr_part_agg T.ag54 (by rw [(facts_Facts.enc).len]; exact T.sz54) (facts_known.seg0 _)) (eqt54 d (by omega) _ _) (eqF_cons (by decide) (pr_part_one T.ag4 (facts_known.seg1 _)) (pr_part_one T.ag4 (facts_known.seg1 _)) ((eqt_bool Tryz.underlying4) d (by omega) _ _) (eqF_cons (by decide) (pr_part_one T.ag4 (facts_known.seg2 _)) (pr_part_one T.ag4 (facts_known.seg2 _)) ((eqt_bool Tryz.underlying4) d (by omega) _ _) (eqF_nil)))
theorem eql106 {ox oy : Operand} {a b : facts_known} : binA Mt.P .eql 106 ox oy (vAgg (facts_known.c a)) (vAgg (facts_known.c b)) = some (.bool (decide (a = b))) := eqA_agg facts_known.enc eqt106 (by decide) (by kernel_rfl)
theorem neq106 {ox oy : Operand} {a b : facts_known} : binA Mt.P .neq 106 ox oy (vAgg (facts_known.c a)) (vAgg (facts_known.c b)) = some (.bool (!decide (a = b))) := neA_agg facts_known.enc eqt106 (by decide) (by kernel_rfl)
theorem eqt107 : EqT Tryz.prog 107 (fun x => vAgg (facts_known.c x)) 5 := fun d hd x y => by
  obtain ⟨d, rfl⟩ : ∃ m, d = m + 1 := ⟨d - 1, by omega⟩
  have e : decide (x = y) = (decide (x.f_Facts = y.f_Facts) && (decide (x.f_whole = y.f_whole) && (decide (x.f_none = y.f_none) && true))) := by
    obtain ⟨a0, a1, a2⟩ := x; obtain ⟨b0, b1, b2⟩ := y
    simp [Bool.decide_and]
  rw [e]
  refine (pr_struct Tryz.underlying107 (by kernel_rfl) d _ _).trans ?_
  exact eqF_cons (by decide) (pr_part_agg T.ag54 (by rw [(facts_Facts.enc).len]; exact T.sz54) (facts_known.seg0 _)) (pr_part_agg T.ag54 (by rw [(facts_Facts.enc).len]; exact T.sz54) (facts_known.seg0 _)) (eqt54 d (by omega) _ _) (eqF_cons (by decide) (pr_part_one T.ag4 (facts_known.seg1 _)) (pr_part_one T.ag4 (facts_known.seg1 _)) ((eqt_bool Tryz.underlying4) d (by omega) _ _) (eqF_cons (by decide) (pr_part_one T.ag4 (facts_known.seg2 _)) (pr_part_one T.ag4 (facts_known.seg2 _)) ((eqt_bool Tryz.underlying4) d (by omega) _ _) (eqF_nil)))
theorem eql107 {ox oy : Operand} {a b : facts_known} : binA Mt.P .eql 107 ox oy (vAgg (facts_known.c a)) (vAgg (facts_known.c b)) = some (.bool (decide (a = b))) := eqA_agg facts_known.enc eqt107 (by decide) (by kernel_rfl)
theorem neq107 {ox oy : Operand} {a b : facts_known} : binA Mt.P .neq 107 ox oy (vAgg (facts_known.c a)) (vAgg (facts_known.c b)) = some (.bool (!decide (a = b))) := neA_agg facts_known.enc eqt107 (by decide) (by kernel_rfl)
theorem eqt90 : EqT Tryz.prog 90 (fun x => vAgg ((cArr (n := 2) (cInt .u8)) x)) 2 := eqt_arr (e := 5) Tryz.underlying90 T.sz5 enc_int (eqt_int (k := .u8) Tryz.underlying5) (.inr ⟨T.ag5, fun _ => rfl⟩)
theorem eql90 {ox oy : Operand} {a b : (Arr Int 2)} : binA Mt.P .eql 90 ox oy (vAgg ((cArr (n := 2) (cInt .u8)) a)) (vAgg ((cArr (n := 2) (cInt .u8)) b)) = some (.bool (decide (a = b))) := eqA_agg (enc_arr (n := 2) enc_int) eqt90 (by decide) (by kernel_rfl)
theorem neq90 {ox oy : Operand} {a b : (Arr Int 2)} : binA Mt.P .neq 90 ox oy (vAgg ((cArr (n := 2) (cInt .u8)) a)) (vAgg ((cArr (n := 2) (cInt .u8)) b)) = some (.bool (!decide (a = b))) := neA_agg (enc_arr (n := 2) enc_int) eqt90 (by decide) (by kernel_rfl)
theorem eqt169 : EqT Tryz.prog 169 (fun x => vAgg ((cArr (n := 5) (cInt .i64)) x)) 2 := eqt_arr (e := 3) Tryz.underlying169 T.sz3 enc_int (eqt_int (k := .i64) Tryz.underlying3) (.inr ⟨T.ag3, fun _ => rfl⟩)
theorem eql169 {ox oy : Operand} {a b : (Arr Int 5)} : binA Mt.P .eql 169 ox oy (vAgg ((cArr (n := 5) (cInt .i64)) a)) (vAgg ((cArr (n := 5) (cInt .i64)) b)) = some (.bool (decide (a = b))) := eqA_agg (enc_arr (n := 5) enc_int) eqt169 (by decide) (by kernel_rfl)
theorem neq169 {ox oy : Operand} {a b : (Arr Int 5)} : binA Mt.P .neq 169 ox oy (vAgg ((cArr (n := 5) (cInt .i64)) a)) (vAgg ((cArr (n := 5) (cInt .i64)) b)) = some (.bool (!decide (a = b))) := neA_agg (enc_arr (n := 5) enc_int) eqt169 (by decide) (by kernel_rfl)
theorem eqt170 : EqT Tryz.prog 170 (fun x => vAgg ((cArr (n := 6) cStr) x)) 2 := eqt_arr (e := 9) Tryz.underlying170 T.sz9 enc_str (eqt_str Tryz.underlying9) (.inr ⟨T.ag9, fun _ => rfl⟩)
theorem eql170 {ox oy : Operand} {a b : (Arr ByteArray 6)} : binA Mt.P .eql 170 ox oy (vAgg ((cArr (n := 6) cStr) a)) (vAgg ((cArr (n := 6) cStr) b)) = some (.bool (decide (a = b))) := eqA_agg (enc_arr (n := 6) enc_str) eqt170 (by decide) (by kernel_rfl)
theorem neq170 {ox oy : Operand} {a b : (Arr ByteArray 6)} : binA Mt.P .neq 170 ox oy (vAgg ((cArr (n := 6) cStr) a)) (vAgg ((cArr (n := 6) cStr) b)) = some (.bool (!decide (a = b))) := neA_agg (enc_arr (n := 6) enc_str) eqt170 (by decide) (by kernel_rfl)
theorem eqt194 : EqT Tryz.prog 194 (fun x => vAgg ((cArr (n := 3) cStr) x)) 2 := eqt_arr (e := 9) Tryz.underlying194 T.sz9 enc_str (eqt_str Tryz.underlying9) (.inr ⟨T.ag9, fun _ => rfl⟩)
theorem eql194 {ox oy : Operand} {a b : (Arr ByteArray 3)} : binA Mt.P .eql 194 ox oy (vAgg ((cArr (n := 3) cStr) a)) (vAgg ((cArr (n := 3) cStr) b)) = some (.bool (decide (a = b))) := eqA_agg (enc_arr (n := 3) enc_str) eqt194 (by decide) (by kernel_rfl)
theorem neq194 {ox oy : Operand} {a b : (Arr ByteArray 3)} : binA Mt.P .neq 194 ox oy (vAgg ((cArr (n := 3) cStr) a)) (vAgg ((cArr (n := 3) cStr) b)) = some (.bool (!decide (a = b))) := neA_agg (enc_arr (n := 3) enc_str) eqt194 (by decide) (by kernel_rfl)
theorem eqt206 : EqT Tryz.prog 206 (fun x => vAgg ((cArr (n := 64) (cInt .u8)) x)) 2 := eqt_arr (e := 5) Tryz.underlying206 T.sz5 enc_int (eqt_int (k := .u8) Tryz.underlying5) (.inr ⟨T.ag5, fun _ => rfl⟩)
theorem eql206 {ox oy : Operand} {a b : (Arr Int 64)} : binA Mt.P .eql 206 ox oy (vAgg ((cArr (n := 64) (cInt .u8)) a)) (vAgg ((cArr (n := 64) (cInt .u8)) b)) = some (.bool (decide (a = b))) := eqA_agg (enc_arr (n := 64) enc_int) eqt206 (by decide) (by kernel_rfl)
theorem neq206 {ox oy : Operand} {a b : (Arr Int 64)} : binA Mt.P .neq 206 ox oy (vAgg ((cArr (n := 64) (cInt .u8)) a)) (vAgg ((cArr (n := 64) (cInt .u8)) b)) = some (.bool (!decide (a = b))) := neA_agg (enc_arr (n := 64) enc_int) eqt206 (by decide) (by kernel_rfl)
theorem eqt219 : EqT Tryz.prog 219 (fun x => vAgg ((cArr (n := 24) (cInt .u8)) x)) 2 := eqt_arr (e := 5) Tryz.underlying219 T.sz5 enc_int (eqt_int (k := .u8) Tryz.underlying5) (.inr ⟨T.ag5, fun _ => rfl⟩)
theorem eql219 {ox oy : Operand} {a b : (Arr Int 24)} : binA Mt.P .eql 219 ox oy (vAgg ((cArr (n := 24) (cInt .u8)) a)) (vAgg ((cArr (n := 24) (cInt .u8)) b)) = some (.bool (decide (a = b))) := eqA_agg (enc_arr (n := 24) enc_int) eqt219 (by decide) (by kernel_rfl)
theorem neq219 {ox oy : Operand} {a b : (Arr Int 24)} : binA Mt.P .neq 219 ox oy (vAgg ((cArr (n := 24) (cInt .u8)) a)) (vAgg ((cArr (n := 24) (cInt .u8)) b)) = some (.bool (!decide (a = b))) := neA_agg (enc_arr (n := 24) enc_int) eqt219 (by decide) (by kernel_rfl)
theorem eqt224 : EqT Tryz.prog 224 (fun x => vAgg ((cArr (n := 20) (cInt .u64)) x)) 2 := eqt_arr (e := 22) Tryz.underlying224 T.sz22 enc_int (eqt_int (k := .u64) Tryz.underlying22) (.inr ⟨T.ag22, fun _ => rfl⟩)
theorem eql224 {ox oy : Operand} {a b : (Arr Int 20)} : binA Mt.P .eql 224 ox oy (vAgg ((cArr (n := 20) (cInt .u64)) a)) (vAgg ((cArr (n := 20) (cInt .u64)) b)) = some (.bool (decide (a = b))) := eqA_agg (enc_arr (n := 20) enc_int) eqt224 (by decide) (by kernel_rfl)
theorem neq224 {ox oy : Operand} {a b : (Arr Int 20)} : binA Mt.P .neq 224 ox oy (vAgg ((cArr (n := 20) (cInt .u64)) a)) (vAgg ((cArr (n := 20) (cInt .u64)) b)) = some (.bool (!decide (a = b))) := neA_agg (enc_arr (n := 20) enc_int) eqt224 (by decide) (by kernel_rfl)
theorem eqt225 : EqT Tryz.prog 225 (fun x => vAgg ((cArr (n := 65) (cInt .u8)) x)) 2 := eqt_arr (e := 5) Tryz.underlying225 T.sz5 enc_int (eqt_int (k := .u8) Tryz.underlying5) (.inr ⟨T.ag5, fun _ => rfl⟩)
theorem eql225 {ox oy : Operand} {a b : (Arr Int 65)} : binA Mt.P .eql 225 ox oy (vAgg ((cArr (n := 65) (cInt .u8)) a)) (vAgg ((cArr (n := 65) (cInt .u8)) b)) = some (.bool (decide (a = b))) := eqA_agg (enc_arr (n := 65) enc_int) eqt225 (by decide) (by kernel_rfl)
theorem neq225 {ox oy : Operand} {a b : (Arr Int 65)} : binA Mt.P .neq 225 ox oy (vAgg ((cArr (n := 65) (cInt .u8)) a)) (vAgg ((cArr (n := 65) (cInt .u8)) b)) = some (.bool (!decide (a = b))) := neA_agg (enc_arr (n := 65) enc_int) eqt225 (by decide) (by kernel_rfl)
theorem eqt227 : EqT Tryz.prog 227 (fun x => vAgg ((cArr (n := 32) (cInt .u8)) x)) 2 := eqt_arr (e := 5) Tryz.underlying227 T.sz5 enc_int (eqt_int (k := .u8) Tryz.underlying5) (.inr ⟨T.ag5, fun _ => rfl⟩)
theorem eql227 {ox oy : Operand} {a b : (Arr Int 32)} : binA Mt.P .eql 227 ox oy (vAgg ((cArr (n := 32) (cInt .u8)) a)) (vAgg ((cArr (n := 32) (cInt .u8)) b)) = some (.bool (decide (a = b))) := eqA_agg (enc_arr (n := 32) enc_int) eqt227 (by decide) (by kernel_rfl)
theorem neq227 {ox oy : Operand} {a b : (Arr Int 32)} : binA Mt.P .neq 227 ox oy (vAgg ((cArr (n := 32) (cInt .u8)) a)) (vAgg ((cArr (n := 32) (cInt .u8)) b)) = some (.bool (!decide (a = b))) := neA_agg (enc_arr (n := 32) enc_int) eqt227 (by decide) (by kernel_rfl)
end Go.Proofs.YtaadjlpfdajggaaGreatDoor
