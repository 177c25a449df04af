import Derived.Test.YtaadjlpfdajggaaGreatDoorBvTypes
import Derived.Test.YtaadjlpfdajggaaGreatDoorBvAm21
import Derived.Test.YtaadjlpfdajggaaGreatDoorBvMach
set_option maxRecDepth 100000
set_option linter.unusedVariables false
set_option linter.unusedSimpArgs false
namespace Go.Proofs.YtaadjlpfdajggaaGreatDoor
open Go Go.AM
structure S_b where
 f_W:(Arr Int 4)
 deriving DecidableEq,Inhabited
def S_b.c (x:S_b):List Value:=(cArr (n:=4) (cInt .u64)) x.f_W
theorem S_b.enc:Enc S_b.c 4 where
 len x:=by simp only [S_b.c,List.length_append,((enc_arr (n:=4) enc_int)).len]
 one x v hv:=((enc_arr (n:=4) enc_int)).one _ v hv
 flat x v hv:=((enc_arr (n:=4) enc_int)).flat _ v hv
 inj a b h:=by
  have e0:=((enc_arr (n:=4) enc_int)).inj _ _ h
  obtain ⟨a0⟩:=a
  obtain ⟨b0⟩:=b
  dsimp only at e0
  subst e0
  rfl
def S_b.zero:S_b:=⟨(Arr.rep 4 0)⟩
theorem S_b.seg0 (x:S_b):Seg (S_b.c x) 0 ((cArr (n:=4) (cInt .u64)) x.f_W):=Seg.refl
structure S_f9 where
 f_Kind:Int
 f_Set:S_b
 f_Min:Int
 f_Max:Int
 f_Mode:Int
 f_N:Int
 f_Flags:ByteArray
 deriving DecidableEq,Inhabited
structure S_f4 where
 f_Steps:Nat
 f_Room:Nat
 deriving DecidableEq,Inhabited
structure S_fO where
 f_First:S_b
 f_Open:Bool
 f_Fast:Bool
 f_Prefix:ByteArray
 deriving DecidableEq,Inhabited
structure S_f3 where
 f_In:(Arr Bool 256)
 deriving DecidableEq,Inhabited
structure S_f6 where
 f_First:S_f3
 f_Open:Bool
 f_Fast:Bool
 f_Prefix:ByteArray
 deriving DecidableEq,Inhabited
structure S_a where
 f_Kind:Int
 f_A:Int
 f_B:Int
 f_Set:S_b
 f_Min:Int
 f_Max:Int
 f_Mode:Int
 f_N:Int
 f_Fold:Bool
 deriving DecidableEq,Inhabited
def S_a.c (x:S_a):List Value:=(cInt .i64) x.f_Kind ++ ((cInt .i64) x.f_A ++ ((cInt .i64) x.f_B ++ (S_b.c x.f_Set ++ ((cInt .i64) x.f_Min ++ ((cInt .i64) x.f_Max ++ ((cInt .i64) x.f_Mode ++ ((cInt .i64) x.f_N ++ (cBool x.f_Fold))))))))
theorem S_a.enc:Enc S_a.c 12 where
 len x:=by simp only [S_a.c,List.length_append,(enc_int).len,(S_b.enc).len,(enc_bool).len]
 one x v hv:=by
  simp only [S_a.c,List.mem_append] at hv
  rcases hv with hv | hv | hv | hv | hv | hv | hv | hv | hv
  ·exact (enc_int).one _ v hv
  ·exact (enc_int).one _ v hv
  ·exact (enc_int).one _ v hv
  ·exact (S_b.enc).one _ v hv
  ·exact (enc_int).one _ v hv
  ·exact (enc_int).one _ v hv
  ·exact (enc_int).one _ v hv
  ·exact (enc_int).one _ v hv
  ·exact (enc_bool).one _ v hv
 flat x v hv:=by
  simp only [S_a.c,List.mem_append] at hv
  rcases hv with hv | hv | hv | hv | hv | hv | hv | hv | hv
  ·exact (enc_int).flat _ v hv
  ·exact (enc_int).flat _ v hv
  ·exact (enc_int).flat _ v hv
  ·exact (S_b.enc).flat _ v hv
  ·exact (enc_int).flat _ v hv
  ·exact (enc_int).flat _ v hv
  ·exact (enc_int).flat _ v hv
  ·exact (enc_int).flat _ v hv
  ·exact (enc_bool).flat _ v hv
 inj a b h:=by
  simp only [S_a.c] at h
  obtain ⟨h0,h⟩:=List.append_inj h (by rw [(enc_int).len,(enc_int).len])
  obtain ⟨h1,h⟩:=List.append_inj h (by rw [(enc_int).len,(enc_int).len])
  obtain ⟨h2,h⟩:=List.append_inj h (by rw [(enc_int).len,(enc_int).len])
  obtain ⟨h3,h⟩:=List.append_inj h (by rw [(S_b.enc).len,(S_b.enc).len])
  obtain ⟨h4,h⟩:=List.append_inj h (by rw [(enc_int).len,(enc_int).len])
  obtain ⟨h5,h⟩:=List.append_inj h (by rw [(enc_int).len,(enc_int).len])
  obtain ⟨h6,h⟩:=List.append_inj h (by rw [(enc_int).len,(enc_int).len])
  obtain ⟨h7,h⟩:=List.append_inj h (by rw [(enc_int).len,(enc_int).len])
  have e8:=(enc_bool).inj _ _ h
  have e0:=(enc_int).inj _ _ h0
  have e1:=(enc_int).inj _ _ h1
  have e2:=(enc_int).inj _ _ h2
  have e3:=(S_b.enc).inj _ _ h3
  have e4:=(enc_int).inj _ _ h4
  have e5:=(enc_int).inj _ _ h5
  have e6:=(enc_int).inj _ _ h6
  have e7:=(enc_int).inj _ _ h7
  obtain ⟨a0,a1,a2,a3,a4,a5,a6,a7,a8⟩:=a
  obtain ⟨b0,b1,b2,b3,b4,b5,b6,b7,b8⟩:=b
  dsimp only at e0 e1 e2 e3 e4 e5 e6 e7 e8
  subst e0 e1 e2 e3 e4 e5 e6 e7 e8
  rfl
def S_a.zero:S_a:=⟨0,0,0,S_b.zero,0,0,0,0,false⟩
theorem S_a.seg0 (x:S_a):Seg (S_a.c x) 0 ((cInt .i64) x.f_Kind):=seg_begin
theorem S_a.wr0 (x:S_a) (y:Int):wrs (S_a.c x) 0 ((cInt .i64) y) = S_a.c { x with f_Kind:=y }:=wrs_begin (by rw [(enc_int).len,(enc_int).len])
abbrev S_a.w1 (x:S_a) (y:Int):S_a:={ x with f_A:=y }
theorem S_a.seg1 (x:S_a):Seg (S_a.c x) 1 ((cInt .i64) x.f_A):=by
 have h:S_a.c x = ((cInt .i64) x.f_Kind) ++ ((cInt .i64) x.f_A ++ ((cInt .i64) x.f_B ++ (S_b.c x.f_Set ++ ((cInt .i64) x.f_Min ++ ((cInt .i64) x.f_Max ++ ((cInt .i64) x.f_Mode ++ ((cInt .i64) x.f_N ++ (cBool x.f_Fold)))))))):=by simp only [S_a.c,List.append_assoc]
 rw [h]; exact seg_mid (by simp only [List.length_append,(enc_int).len,(S_b.enc).len,(enc_bool).len])
theorem S_a.wr1 (x:S_a) (y:Int):wrs (S_a.c x) 1 ((cInt .i64) y) = S_a.c { x with f_A:=y }:=by
 have h:S_a.c x = ((cInt .i64) x.f_Kind) ++ ((cInt .i64) x.f_A ++ ((cInt .i64) x.f_B ++ (S_b.c x.f_Set ++ ((cInt .i64) x.f_Min ++ ((cInt .i64) x.f_Max ++ ((cInt .i64) x.f_Mode ++ ((cInt .i64) x.f_N ++ (cBool x.f_Fold)))))))):=by simp only [S_a.c,List.append_assoc]
 rw [h,wrs_mid (by simp only [List.length_append,(enc_int).len,(S_b.enc).len,(enc_bool).len]) (by rw [(enc_int).len,(enc_int).len])]; simp only [S_a.c,List.append_assoc]
abbrev S_a.w2 (x:S_a) (y:Int):S_a:={ x with f_B:=y }
theorem S_a.seg2 (x:S_a):Seg (S_a.c x) 2 ((cInt .i64) x.f_B):=by
 have h:S_a.c x = (((cInt .i64) x.f_Kind) ++ (cInt .i64) x.f_A) ++ ((cInt .i64) x.f_B ++ (S_b.c x.f_Set ++ ((cInt .i64) x.f_Min ++ ((cInt .i64) x.f_Max ++ ((cInt .i64) x.f_Mode ++ ((cInt .i64) x.f_N ++ (cBool x.f_Fold))))))):=by simp only [S_a.c,List.append_assoc]
 rw [h]; exact seg_mid (by simp only [List.length_append,(enc_int).len,(S_b.enc).len,(enc_bool).len])
theorem S_a.wr2 (x:S_a) (y:Int):wrs (S_a.c x) 2 ((cInt .i64) y) = S_a.c { x with f_B:=y }:=by
 have h:S_a.c x = (((cInt .i64) x.f_Kind) ++ (cInt .i64) x.f_A) ++ ((cInt .i64) x.f_B ++ (S_b.c x.f_Set ++ ((cInt .i64) x.f_Min ++ ((cInt .i64) x.f_Max ++ ((cInt .i64) x.f_Mode ++ ((cInt .i64) x.f_N ++ (cBool x.f_Fold))))))):=by simp only [S_a.c,List.append_assoc]
 rw [h,wrs_mid (by simp only [List.length_append,(enc_int).len,(S_b.enc).len,(enc_bool).len]) (by rw [(enc_int).len,(enc_int).len])]; simp only [S_a.c,List.append_assoc]
theorem S_a.seg3 (x:S_a):Seg (S_a.c x) 3 (S_b.c x.f_Set):=by
 have h:S_a.c x = ((((cInt .i64) x.f_Kind) ++ (cInt .i64) x.f_A) ++ (cInt .i64) x.f_B) ++ (S_b.c x.f_Set ++ ((cInt .i64) x.f_Min ++ ((cInt .i64) x.f_Max ++ ((cInt .i64) x.f_Mode ++ ((cInt .i64) x.f_N ++ (cBool x.f_Fold)))))):=by simp only [S_a.c,List.append_assoc]
 rw [h]; exact seg_mid (by simp only [List.length_append,(enc_int).len,(S_b.enc).len,(enc_bool).len])
theorem S_a.seg4 (x:S_a):Seg (S_a.c x) 7 ((cInt .i64) x.f_Min):=by
 have h:S_a.c x = (((((cInt .i64) x.f_Kind) ++ (cInt .i64) x.f_A) ++ (cInt .i64) x.f_B) ++ S_b.c x.f_Set) ++ ((cInt .i64) x.f_Min ++ ((cInt .i64) x.f_Max ++ ((cInt .i64) x.f_Mode ++ ((cInt .i64) x.f_N ++ (cBool x.f_Fold))))):=by simp only [S_a.c,List.append_assoc]
 rw [h]; exact seg_mid (by simp only [List.length_append,(enc_int).len,(S_b.enc).len,(enc_bool).len])
theorem S_a.seg5 (x:S_a):Seg (S_a.c x) 8 ((cInt .i64) x.f_Max):=by
 have h:S_a.c x = ((((((cInt .i64) x.f_Kind) ++ (cInt .i64) x.f_A) ++ (cInt .i64) x.f_B) ++ S_b.c x.f_Set) ++ (cInt .i64) x.f_Min) ++ ((cInt .i64) x.f_Max ++ ((cInt .i64) x.f_Mode ++ ((cInt .i64) x.f_N ++ (cBool x.f_Fold)))):=by simp only [S_a.c,List.append_assoc]
 rw [h]; exact seg_mid (by simp only [List.length_append,(enc_int).len,(S_b.enc).len,(enc_bool).len])
theorem S_a.seg6 (x:S_a):Seg (S_a.c x) 9 ((cInt .i64) x.f_Mode):=by
 have h:S_a.c x = (((((((cInt .i64) x.f_Kind) ++ (cInt .i64) x.f_A) ++ (cInt .i64) x.f_B) ++ S_b.c x.f_Set) ++ (cInt .i64) x.f_Min) ++ (cInt .i64) x.f_Max) ++ ((cInt .i64) x.f_Mode ++ ((cInt .i64) x.f_N ++ (cBool x.f_Fold))):=by simp only [S_a.c,List.append_assoc]
 rw [h]; exact seg_mid (by simp only [List.length_append,(enc_int).len,(S_b.enc).len,(enc_bool).len])
theorem S_a.seg7 (x:S_a):Seg (S_a.c x) 10 ((cInt .i64) x.f_N):=by
 have h:S_a.c x = ((((((((cInt .i64) x.f_Kind) ++ (cInt .i64) x.f_A) ++ (cInt .i64) x.f_B) ++ S_b.c x.f_Set) ++ (cInt .i64) x.f_Min) ++ (cInt .i64) x.f_Max) ++ (cInt .i64) x.f_Mode) ++ ((cInt .i64) x.f_N ++ (cBool x.f_Fold)):=by simp only [S_a.c,List.append_assoc]
 rw [h]; exact seg_mid (by simp only [List.length_append,(enc_int).len,(S_b.enc).len,(enc_bool).len])
theorem S_a.seg8 (x:S_a):Seg (S_a.c x) 11 (cBool x.f_Fold):=by
 have h:S_a.c x = (((((((((cInt .i64) x.f_Kind) ++ (cInt .i64) x.f_A) ++ (cInt .i64) x.f_B) ++ S_b.c x.f_Set) ++ (cInt .i64) x.f_Min) ++ (cInt .i64) x.f_Max) ++ (cInt .i64) x.f_Mode) ++ (cInt .i64) x.f_N) ++ cBool x.f_Fold:=by simp only [S_a.c,List.append_assoc]
 rw [h]; exact seg_end (by simp only [List.length_append,(enc_int).len,(S_b.enc).len,(enc_bool).len])
theorem zs72:zc Mt.P 72 = some (S_a.c S_a.zero):=T.zc72
theorem pl72:plO Tryz.prog 72 = some [(0,1),(1,1),(2,1),(3,4),(7,1),(8,1),(9,1),(10,1),(11,1)]:=by kernel_rfl
theorem fd72_0:fdO Tryz.prog 72 0 = some (3,0):=by kernel_rfl
theorem fa72_0 {H:Hp} {b o:Nat}:faP Mt H 72 0 (.pointer (some ⟨b,o,none⟩)) = some (.val (.pointer (some ⟨b,o + 0,none⟩)),H):=fa_ok fd72_0 T.sz3
theorem fd72_1:fdO Tryz.prog 72 1 = some (3,1):=by kernel_rfl
theorem fa72_1 {H:Hp} {b o:Nat}:faP Mt H 72 1 (.pointer (some ⟨b,o,none⟩)) = some (.val (.pointer (some ⟨b,o + 1,none⟩)),H):=fa_ok fd72_1 T.sz3
theorem fd72_2:fdO Tryz.prog 72 2 = some (3,2):=by kernel_rfl
theorem fa72_2 {H:Hp} {b o:Nat}:faP Mt H 72 2 (.pointer (some ⟨b,o,none⟩)) = some (.val (.pointer (some ⟨b,o + 2,none⟩)),H):=fa_ok fd72_2 T.sz3
theorem fd72_4:fdO Tryz.prog 72 4 = some (3,7):=by kernel_rfl
theorem fa72_4 {H:Hp} {b o:Nat}:faP Mt H 72 4 (.pointer (some ⟨b,o,none⟩)) = some (.val (.pointer (some ⟨b,o + 7,none⟩)),H):=fa_ok fd72_4 T.sz3
theorem fd72_5:fdO Tryz.prog 72 5 = some (3,8):=by kernel_rfl
theorem fa72_5 {H:Hp} {b o:Nat}:faP Mt H 72 5 (.pointer (some ⟨b,o,none⟩)) = some (.val (.pointer (some ⟨b,o + 8,none⟩)),H):=fa_ok fd72_5 T.sz3
theorem fd72_6:fdO Tryz.prog 72 6 = some (3,9):=by kernel_rfl
theorem fa72_6 {H:Hp} {b o:Nat}:faP Mt H 72 6 (.pointer (some ⟨b,o,none⟩)) = some (.val (.pointer (some ⟨b,o + 9,none⟩)),H):=fa_ok fd72_6 T.sz3
theorem fd72_7:fdO Tryz.prog 72 7 = some (3,10):=by kernel_rfl
theorem fa72_7 {H:Hp} {b o:Nat}:faP Mt H 72 7 (.pointer (some ⟨b,o,none⟩)) = some (.val (.pointer (some ⟨b,o + 10,none⟩)),H):=fa_ok fd72_7 T.sz3
structure S_f8 where
 f_Kind:Int
 f_A:Int
 f_B:Int
 f_Set:(Arr Int 4)
 f_Min:Int
 f_Max:Int
 f_Mode:Int
 f_N:Int
 f_Fold:Bool
 deriving DecidableEq,Inhabited
structure S_f7 where
 f_Facts:S_fO
 f_whole:Bool
 f_none:Bool
 deriving DecidableEq,Inhabited
theorem ia35 {H:Hp} {b:Nat} {x:(Sl S_a)} {k:IntKind} {i:Int}:iaP Mt H 35 (slV x b) (.int k i) = (ck (Sl.l x).length i).map fun j=>(.val (.pointer (some ⟨b,j * 12,none⟩)),H):=ia_sl Tryz.underlying35 T.sz72
theorem ln35 {b:Nat} {x:(Sl S_a)}:lenA Mt.P 35 (slV x b) = some (.int .i64 (Sl.len x)):=len_sl Tryz.underlying35
theorem ia100 {H:Hp} {b:Nat} {x:(Sl Int)} {k:IntKind} {i:Int}:iaP Mt H 100 (slV x b) (.int k i) = (ck (Sl.l x).length i).map fun j=>(.val (.pointer (some ⟨b,j * 1,none⟩)),H):=ia_sl Tryz.underlying100 T.sz3
theorem ln100 {b:Nat} {x:(Sl Int)}:lenA Mt.P 100 (slV x b) = some (.int .i64 (Sl.len x)):=len_sl Tryz.underlying100
theorem pl37:plO Tryz.prog 37 = some [(0,1)]:=by kernel_rfl
theorem fd37_0:fdO Tryz.prog 37 0 = some (35,0):=by kernel_rfl
theorem fa37_0 {H:Hp} {b o:Nat}:faP Mt H 37 0 (.pointer (some ⟨b,o,none⟩)) = some (.val (.pointer (some ⟨b,o + 0,none⟩)),H):=fa_ok fd37_0 T.sz35
theorem zs3:zc Mt.P 3 = some ((cInt .i64) 0):=T.zc3
theorem eqt23:EqT Tryz.prog 23 (fun x=>vAgg ((cArr (n:=4) (cInt .u64)) x)) 2:=eqt_arr (e:=22) Tryz.underlying23 T.sz22 enc_int (eqt_int (k:=.u64) Tryz.underlying22) (.inr ⟨T.ag22,fun _=>rfl⟩)
theorem eqt25:EqT Tryz.prog 25 (fun x=>vAgg (S_b.c x)) 3:=fun d hd x y=>by
 obtain ⟨d,rfl⟩:∃ m,d = m + 1:=⟨d - 1,by omega⟩
 have e:decide (x = y) = (decide (x.f_W = y.f_W) && true):=by
  obtain ⟨a0⟩:=x; obtain ⟨b0⟩:=y
  simp [Bool.decide_and]
 rw [e]
 refine (pr_struct Tryz.underlying25 (by kernel_rfl) d _ _).trans ?_
 exact eqF_cons (by decide) (pr_part_agg T.ag23 (by rw [((enc_arr (n:=4) enc_int)).len]; exact T.sz23) (S_b.seg0 _)) (pr_part_agg T.ag23 (by rw [((enc_arr (n:=4) enc_int)).len]; exact T.sz23) (S_b.seg0 _)) (eqt23 d (by omega) _ _) (eqF_nil)
theorem eqt72:EqT Tryz.prog 72 (fun x=>vAgg (S_a.c x)) 4:=fun d hd x y=>by
 obtain ⟨d,rfl⟩:∃ m,d = m + 1:=⟨d - 1,by omega⟩
 have e:decide (x = y) = (decide (x.f_Kind = y.f_Kind) && (decide (x.f_A = y.f_A) && (decide (x.f_B = y.f_B) && (decide (x.f_Set = y.f_Set) && (decide (x.f_Min = y.f_Min) && (decide (x.f_Max = y.f_Max) && (decide (x.f_Mode = y.f_Mode) && (decide (x.f_N = y.f_N) && (decide (x.f_Fold = y.f_Fold) && true))))))))):=by
  obtain ⟨a0,a1,a2,a3,a4,a5,a6,a7,a8⟩:=x; obtain ⟨b0,b1,b2,b3,b4,b5,b6,b7,b8⟩:=y
  simp [Bool.decide_and]
 rw [e]
 refine (pr_struct Tryz.underlying72 (by kernel_rfl) d _ _).trans ?_
 exact eqF_cons (by decide) (pr_part_one T.ag3 (S_a.seg0 _)) (pr_part_one T.ag3 (S_a.seg0 _)) ((eqt_int (k:=.i64) Tryz.underlying3) d (by omega) _ _) (eqF_cons (by decide) (pr_part_one T.ag3 (S_a.seg1 _)) (pr_part_one T.ag3 (S_a.seg1 _)) ((eqt_int (k:=.i64) Tryz.underlying3) d (by omega) _ _) (eqF_cons (by decide) (pr_part_one T.ag3 (S_a.seg2 _)) (pr_part_one T.ag3 (S_a.seg2 _)) ((eqt_int (k:=.i64) Tryz.underlying3) d (by omega) _ _) (eqF_cons (by decide) (pr_part_agg T.ag25 (by rw [(S_b.enc).len]; exact T.sz25) (S_a.seg3 _)) (pr_part_agg T.ag25 (by rw [(S_b.enc).len]; exact T.sz25) (S_a.seg3 _)) (eqt25 d (by omega) _ _) (eqF_cons (by decide) (pr_part_one T.ag3 (S_a.seg4 _)) (pr_part_one T.ag3 (S_a.seg4 _)) ((eqt_int (k:=.i64) Tryz.underlying3) d (by omega) _ _) (eqF_cons (by decide) (pr_part_one T.ag3 (S_a.seg5 _)) (pr_part_one T.ag3 (S_a.seg5 _)) ((eqt_int (k:=.i64) Tryz.underlying3) d (by omega) _ _) (eqF_cons (by decide) (pr_part_one T.ag3 (S_a.seg6 _)) (pr_part_one T.ag3 (S_a.seg6 _)) ((eqt_int (k:=.i64) Tryz.underlying3) d (by omega) _ _) (eqF_cons (by decide) (pr_part_one T.ag3 (S_a.seg7 _)) (pr_part_one T.ag3 (S_a.seg7 _)) ((eqt_int (k:=.i64) Tryz.underlying3) d (by omega) _ _) (eqF_cons (by decide) (pr_part_one T.ag4 (S_a.seg8 _)) (pr_part_one T.ag4 (S_a.seg8 _)) ((eqt_bool Tryz.underlying4) d (by omega) _ _) (eqF_nil)))))))))
theorem neq72 {ox oy:Operand} {a b:S_a}:binA Mt.P .neq 72 ox oy (vAgg (S_a.c a)) (vAgg (S_a.c b)) = some (.bool (!decide (a = b))):=neA_agg S_a.enc eqt72 (by decide) (by kernel_rfl)
end Go.Proofs.YtaadjlpfdajggaaGreatDoor
