import Derived.Test.YtaadjlpfdajggaaGreatDoorFjTypes
import Derived.Test.YtaadjlpfdajggaaGreatDoorFjAm21
import Derived.Test.YtaadjlpfdajggaaGreatDoorFjMach
set_option maxRecDepth 100000
set_option linter.unusedVariables false
set_option linter.unusedSimpArgs false
namespace Go.Proofs.YtaadjlpfdajggaaGreatDoor
open Go Go.AM
structure S_g where
 f_W:(Arr Int 4)
 deriving DecidableEq,Inhabited
def S_g.c (x:S_g):List Value:=(cArr (n:=4) (cInt .u64)) x.f_W
theorem S_g.enc:Enc S_g.c 4 where
 len x:=by simp only [S_g.c,lLa,((enc_arr (n:=4) enc_int)).len]
 one x v hv:=((enc_arr (n:=4) enc_int)).one _ v hv
 flat x v hv:=((enc_arr (n:=4) enc_int)).flat _ v hv
 inj a b h:=by
  have e0:=((enc_arr (n:=4) enc_int)).inj _ _ h;obtain ⟨a0⟩:=a;obtain ⟨b0⟩:=b
  dsimp only at e0
  subst e0;rfl
def S_g.zero:S_g:=⟨(Arr.rep 4 0)⟩
theorem S_g.seg0 (x:S_g):Seg (S_g.c x) 0 ((cArr (n:=4) (cInt .u64)) x.f_W):=Seg.refl
theorem S_g.wr0 (x:S_g) (y:(Arr Int 4)):wrs (S_g.c x) 0 ((cArr (n:=4) (cInt .u64)) y) = S_g.c { x with f_W:=y }:=wrs_all (by unfold S_g.c; rw [((enc_arr (n:=4) enc_int)).len,((enc_arr (n:=4) enc_int)).len])
theorem zs25:zc Mt.P 25 = some (S_g.c S_g.zero):=T.zc25
theorem pl25:plO Tryz.prog 25 = some [(0,4)]:=by kernel_rfl
theorem fd25_0:fdO Tryz.prog 25 0 = some (23,0):=by kernel_rfl
theorem fa25_0 {H:Hp} {b o:Nat}:faP Mt H 25 0 (.pointer (some ⟨b,o,none⟩)) = some (.val (.pointer (some ⟨b,o + 0,none⟩)),H):=fa_ok fd25_0 T.sz23
structure S_kG where
 f_Kind:Int
 f_Set:S_g
 f_Min:Int
 f_Max:Int
 f_Mode:Int
 f_N:Int
 f_Flags:ByteArray
 deriving DecidableEq,Inhabited
structure S_kE where
 f_Steps:Nat
 f_Room:Nat
 deriving DecidableEq,Inhabited
structure S_e where
 f_First:S_g
 f_Open:Bool
 f_Fast:Bool
 f_Prefix:ByteArray
 deriving DecidableEq,Inhabited
def S_e.c (x:S_e):List Value:=S_g.c x.f_First ++ (cBool x.f_Open ++ (cBool x.f_Fast ++ (cStr x.f_Prefix)))
theorem S_e.enc:Enc S_e.c 7 where
 len x:=by simp only [S_e.c,lLa,(S_g.enc).len,(enc_bool).len,(enc_str).len]
 one x v hv:=by
  simp only [S_e.c,List.mem_append] at hv
  rcases hv with hv | hv | hv | hv
  ·exact (S_g.enc).one _ v hv
  ·exact (enc_bool).one _ v hv
  ·exact (enc_bool).one _ v hv
  ·exact (enc_str).one _ v hv
 flat x v hv:=by
  simp only [S_e.c,List.mem_append] at hv
  rcases hv with hv | hv | hv | hv
  ·exact (S_g.enc).flat _ v hv
  ·exact (enc_bool).flat _ v hv
  ·exact (enc_bool).flat _ v hv
  ·exact (enc_str).flat _ v hv
 inj a b h:=by
  simp only [S_e.c] at h;obtain ⟨h0,h⟩:=List.append_inj h (by rw [(S_g.enc).len,(S_g.enc).len]);obtain ⟨h1,h⟩:=List.append_inj h (by rw [(enc_bool).len,(enc_bool).len]);obtain ⟨h2,h⟩:=List.append_inj h (by rw [(enc_bool).len,(enc_bool).len]);have e3:=(enc_str).inj _ _ h;have e0:=(S_g.enc).inj _ _ h0;have e1:=(enc_bool).inj _ _ h1;have e2:=(enc_bool).inj _ _ h2;obtain ⟨a0,a1,a2,a3⟩:=a;obtain ⟨b0,b1,b2,b3⟩:=b
  dsimp only at e0 e1 e2 e3
  subst e0 e1 e2 e3;rfl
def S_e.zero:S_e:=⟨S_g.zero,false,false,⟨#[]⟩⟩
abbrev S_e.w0 (x:S_e) (y:S_g):S_e:={ x with f_First:=y }
theorem S_e.seg0 (x:S_e):Seg (S_e.c x) 0 (S_g.c x.f_First):=seg_begin
theorem S_e.wr0 (x:S_e) (y:S_g):wrs (S_e.c x) 0 (S_g.c y) = S_e.c { x with f_First:=y }:=wrs_begin (by rw [(S_g.enc).len,(S_g.enc).len])
theorem S_e.seg1 (x:S_e):Seg (S_e.c x) 4 (cBool x.f_Open):=by
 have h:S_e.c x = (S_g.c x.f_First) ++ (cBool x.f_Open ++ (cBool x.f_Fast ++ (cStr x.f_Prefix))):=by simp only [S_e.c,lAs]
 rw [h]; exact seg_mid (by simp only [lLa,(S_g.enc).len,(enc_bool).len,(enc_str).len])
theorem S_e.wr1 (x:S_e) (y:Bool):wrs (S_e.c x) 4 (cBool y) = S_e.c { x with f_Open:=y }:=by
 have h:S_e.c x = (S_g.c x.f_First) ++ (cBool x.f_Open ++ (cBool x.f_Fast ++ (cStr x.f_Prefix))):=by simp only [S_e.c,lAs]
 rw [h,wrs_mid (by simp only [lLa,(S_g.enc).len,(enc_bool).len,(enc_str).len]) (by rw [(enc_bool).len,(enc_bool).len])]; simp only [S_e.c,lAs]
abbrev S_e.w2 (x:S_e) (y:Bool):S_e:={ x with f_Fast:=y }
theorem S_e.seg2 (x:S_e):Seg (S_e.c x) 5 (cBool x.f_Fast):=by
 have h:S_e.c x = ((S_g.c x.f_First) ++ cBool x.f_Open) ++ (cBool x.f_Fast ++ (cStr x.f_Prefix)):=by simp only [S_e.c,lAs]
 rw [h]; exact seg_mid (by simp only [lLa,(S_g.enc).len,(enc_bool).len,(enc_str).len])
theorem S_e.wr2 (x:S_e) (y:Bool):wrs (S_e.c x) 5 (cBool y) = S_e.c { x with f_Fast:=y }:=by
 have h:S_e.c x = ((S_g.c x.f_First) ++ cBool x.f_Open) ++ (cBool x.f_Fast ++ (cStr x.f_Prefix)):=by simp only [S_e.c,lAs]
 rw [h,wrs_mid (by simp only [lLa,(S_g.enc).len,(enc_bool).len,(enc_str).len]) (by rw [(enc_bool).len,(enc_bool).len])]; simp only [S_e.c,lAs]
abbrev S_e.w3 (x:S_e) (y:ByteArray):S_e:={ x with f_Prefix:=y }
theorem S_e.seg3 (x:S_e):Seg (S_e.c x) 6 (cStr x.f_Prefix):=by
 have h:S_e.c x = (((S_g.c x.f_First) ++ cBool x.f_Open) ++ cBool x.f_Fast) ++ cStr x.f_Prefix:=by simp only [S_e.c,lAs]
 rw [h]; exact seg_end (by simp only [lLa,(S_g.enc).len,(enc_bool).len,(enc_str).len])
theorem S_e.wr3 (x:S_e) (y:ByteArray):wrs (S_e.c x) 6 (cStr y) = S_e.c { x with f_Prefix:=y }:=by
 have h:S_e.c x = (((S_g.c x.f_First) ++ cBool x.f_Open) ++ cBool x.f_Fast) ++ cStr x.f_Prefix:=by simp only [S_e.c,lAs]
 rw [h,wrs_end (by simp only [lLa,(S_g.enc).len,(enc_bool).len,(enc_str).len]) (by rw [(enc_str).len,(enc_str).len])]; simp only [S_e.c,lAs]
theorem zs54:zc Mt.P 54 = some (S_e.c S_e.zero):=T.zc54
theorem pl54:plO Tryz.prog 54 = some [(0,4),(4,1),(5,1),(6,1)]:=by kernel_rfl
theorem fd54_0:fdO Tryz.prog 54 0 = some (25,0):=by kernel_rfl
theorem fa54_0 {H:Hp} {b o:Nat}:faP Mt H 54 0 (.pointer (some ⟨b,o,none⟩)) = some (.val (.pointer (some ⟨b,o + 0,none⟩)),H):=fa_ok fd54_0 T.sz25
theorem fd54_1:fdO Tryz.prog 54 1 = some (4,4):=by kernel_rfl
theorem fa54_1 {H:Hp} {b o:Nat}:faP Mt H 54 1 (.pointer (some ⟨b,o,none⟩)) = some (.val (.pointer (some ⟨b,o + 4,none⟩)),H):=fa_ok fd54_1 T.sz4
theorem fd54_2:fdO Tryz.prog 54 2 = some (4,5):=by kernel_rfl
theorem fa54_2 {H:Hp} {b o:Nat}:faP Mt H 54 2 (.pointer (some ⟨b,o,none⟩)) = some (.val (.pointer (some ⟨b,o + 5,none⟩)),H):=fa_ok fd54_2 T.sz4
theorem fd54_3:fdO Tryz.prog 54 3 = some (9,6):=by kernel_rfl
theorem fa54_3 {H:Hp} {b o:Nat}:faP Mt H 54 3 (.pointer (some ⟨b,o,none⟩)) = some (.val (.pointer (some ⟨b,o + 6,none⟩)),H):=fa_ok fd54_3 T.sz9
structure S_f where
 f_In:(Arr Bool 256)
 deriving DecidableEq,Inhabited
def S_f.c (x:S_f):List Value:=(cArr (n:=256) cBool) x.f_In
theorem S_f.enc:Enc S_f.c 256 where
 len x:=by simp only [S_f.c,lLa,((enc_arr (n:=256) enc_bool)).len]
 one x v hv:=((enc_arr (n:=256) enc_bool)).one _ v hv
 flat x v hv:=((enc_arr (n:=256) enc_bool)).flat _ v hv
 inj a b h:=by
  have e0:=((enc_arr (n:=256) enc_bool)).inj _ _ h;obtain ⟨a0⟩:=a;obtain ⟨b0⟩:=b
  dsimp only at e0
  subst e0;rfl
def S_f.zero:S_f:=⟨(Arr.rep 256 false)⟩
theorem S_f.seg0 (x:S_f):Seg (S_f.c x) 0 ((cArr (n:=256) cBool) x.f_In):=Seg.refl
theorem S_f.wr0 (x:S_f) (y:(Arr Bool 256)):wrs (S_f.c x) 0 ((cArr (n:=256) cBool) y) = S_f.c { x with f_In:=y }:=wrs_all (by unfold S_f.c; rw [((enc_arr (n:=256) enc_bool)).len,((enc_arr (n:=256) enc_bool)).len])
theorem zs59:zc Mt.P 59 = some (S_f.c S_f.zero):=by kernel_rfl
theorem pl59:plO Tryz.prog 59 = some [(0,256)]:=by kernel_rfl
theorem fd59_0:fdO Tryz.prog 59 0 = some (57,0):=by kernel_rfl
theorem fa59_0 {H:Hp} {b o:Nat}:faP Mt H 59 0 (.pointer (some ⟨b,o,none⟩)) = some (.val (.pointer (some ⟨b,o + 0,none⟩)),H):=fa_ok fd59_0 T.sz57
structure S_b where
 f_First:S_f
 f_Open:Bool
 f_Fast:Bool
 f_Prefix:ByteArray
 deriving DecidableEq,Inhabited
def S_b.c (x:S_b):List Value:=S_f.c x.f_First ++ (cBool x.f_Open ++ (cBool x.f_Fast ++ (cStr x.f_Prefix)))
theorem S_b.enc:Enc S_b.c 259 where
 len x:=by simp only [S_b.c,lLa,(S_f.enc).len,(enc_bool).len,(enc_str).len]
 one x v hv:=by
  simp only [S_b.c,List.mem_append] at hv
  rcases hv with hv | hv | hv | hv
  ·exact (S_f.enc).one _ v hv
  ·exact (enc_bool).one _ v hv
  ·exact (enc_bool).one _ v hv
  ·exact (enc_str).one _ v hv
 flat x v hv:=by
  simp only [S_b.c,List.mem_append] at hv
  rcases hv with hv | hv | hv | hv
  ·exact (S_f.enc).flat _ v hv
  ·exact (enc_bool).flat _ v hv
  ·exact (enc_bool).flat _ v hv
  ·exact (enc_str).flat _ v hv
 inj a b h:=by
  simp only [S_b.c] at h;obtain ⟨h0,h⟩:=List.append_inj h (by rw [(S_f.enc).len,(S_f.enc).len]);obtain ⟨h1,h⟩:=List.append_inj h (by rw [(enc_bool).len,(enc_bool).len]);obtain ⟨h2,h⟩:=List.append_inj h (by rw [(enc_bool).len,(enc_bool).len]);have e3:=(enc_str).inj _ _ h;have e0:=(S_f.enc).inj _ _ h0;have e1:=(enc_bool).inj _ _ h1;have e2:=(enc_bool).inj _ _ h2;obtain ⟨a0,a1,a2,a3⟩:=a;obtain ⟨b0,b1,b2,b3⟩:=b
  dsimp only at e0 e1 e2 e3
  subst e0 e1 e2 e3;rfl
def S_b.zero:S_b:=⟨S_f.zero,false,false,⟨#[]⟩⟩
theorem S_b.seg0 (x:S_b):Seg (S_b.c x) 0 (S_f.c x.f_First):=seg_begin
theorem S_b.wr0 (x:S_b) (y:S_f):wrs (S_b.c x) 0 (S_f.c y) = S_b.c { x with f_First:=y }:=wrs_begin (by rw [(S_f.enc).len,(S_f.enc).len])
theorem S_b.seg1 (x:S_b):Seg (S_b.c x) 256 (cBool x.f_Open):=by
 have h:S_b.c x = (S_f.c x.f_First) ++ (cBool x.f_Open ++ (cBool x.f_Fast ++ (cStr x.f_Prefix))):=by simp only [S_b.c,lAs]
 rw [h]; exact seg_mid (by simp only [lLa,(S_f.enc).len,(enc_bool).len,(enc_str).len])
theorem S_b.wr1 (x:S_b) (y:Bool):wrs (S_b.c x) 256 (cBool y) = S_b.c { x with f_Open:=y }:=by
 have h:S_b.c x = (S_f.c x.f_First) ++ (cBool x.f_Open ++ (cBool x.f_Fast ++ (cStr x.f_Prefix))):=by simp only [S_b.c,lAs]
 rw [h,wrs_mid (by simp only [lLa,(S_f.enc).len,(enc_bool).len,(enc_str).len]) (by rw [(enc_bool).len,(enc_bool).len])]; simp only [S_b.c,lAs]
theorem S_b.seg2 (x:S_b):Seg (S_b.c x) 257 (cBool x.f_Fast):=by
 have h:S_b.c x = ((S_f.c x.f_First) ++ cBool x.f_Open) ++ (cBool x.f_Fast ++ (cStr x.f_Prefix)):=by simp only [S_b.c,lAs]
 rw [h]; exact seg_mid (by simp only [lLa,(S_f.enc).len,(enc_bool).len,(enc_str).len])
theorem S_b.wr2 (x:S_b) (y:Bool):wrs (S_b.c x) 257 (cBool y) = S_b.c { x with f_Fast:=y }:=by
 have h:S_b.c x = ((S_f.c x.f_First) ++ cBool x.f_Open) ++ (cBool x.f_Fast ++ (cStr x.f_Prefix)):=by simp only [S_b.c,lAs]
 rw [h,wrs_mid (by simp only [lLa,(S_f.enc).len,(enc_bool).len,(enc_str).len]) (by rw [(enc_bool).len,(enc_bool).len])]; simp only [S_b.c,lAs]
theorem S_b.seg3 (x:S_b):Seg (S_b.c x) 258 (cStr x.f_Prefix):=by
 have h:S_b.c x = (((S_f.c x.f_First) ++ cBool x.f_Open) ++ cBool x.f_Fast) ++ cStr x.f_Prefix:=by simp only [S_b.c,lAs]
 rw [h]; exact seg_end (by simp only [lLa,(S_f.enc).len,(enc_bool).len,(enc_str).len])
theorem S_b.wr3 (x:S_b) (y:ByteArray):wrs (S_b.c x) 258 (cStr y) = S_b.c { x with f_Prefix:=y }:=by
 have h:S_b.c x = (((S_f.c x.f_First) ++ cBool x.f_Open) ++ cBool x.f_Fast) ++ cStr x.f_Prefix:=by simp only [S_b.c,lAs]
 rw [h,wrs_end (by simp only [lLa,(S_f.enc).len,(enc_bool).len,(enc_str).len]) (by rw [(enc_str).len,(enc_str).len])]; simp only [S_b.c,lAs]
theorem zs61:zc Mt.P 61 = some (S_b.c S_b.zero):=by kernel_rfl
theorem pl61:plO Tryz.prog 61 = some [(0,256),(256,1),(257,1),(258,1)]:=by kernel_rfl
theorem fd61_0:fdO Tryz.prog 61 0 = some (59,0):=by kernel_rfl
theorem fa61_0 {H:Hp} {b o:Nat}:faP Mt H 61 0 (.pointer (some ⟨b,o,none⟩)) = some (.val (.pointer (some ⟨b,o + 0,none⟩)),H):=fa_ok fd61_0 T.sz59
theorem fd61_1:fdO Tryz.prog 61 1 = some (4,256):=by kernel_rfl
theorem fa61_1 {H:Hp} {b o:Nat}:faP Mt H 61 1 (.pointer (some ⟨b,o,none⟩)) = some (.val (.pointer (some ⟨b,o + 256,none⟩)),H):=fa_ok fd61_1 T.sz4
theorem fd61_2:fdO Tryz.prog 61 2 = some (4,257):=by kernel_rfl
theorem fa61_2 {H:Hp} {b o:Nat}:faP Mt H 61 2 (.pointer (some ⟨b,o,none⟩)) = some (.val (.pointer (some ⟨b,o + 257,none⟩)),H):=fa_ok fd61_2 T.sz4
theorem fd61_3:fdO Tryz.prog 61 3 = some (9,258):=by kernel_rfl
theorem fa61_3 {H:Hp} {b o:Nat}:faP Mt H 61 3 (.pointer (some ⟨b,o,none⟩)) = some (.val (.pointer (some ⟨b,o + 258,none⟩)),H):=fa_ok fd61_3 T.sz9
structure S_c where
 f_Kind:Int
 f_A:Int
 f_B:Int
 f_Set:S_g
 f_Min:Int
 f_Max:Int
 f_Mode:Int
 f_N:Int
 f_Fold:Bool
 deriving DecidableEq,Inhabited
def S_c.c (x:S_c):List Value:=(cInt .i64) x.f_Kind ++ ((cInt .i64) x.f_A ++ ((cInt .i64) x.f_B ++ (S_g.c x.f_Set ++ ((cInt .i64) x.f_Min ++ ((cInt .i64) x.f_Max ++ ((cInt .i64) x.f_Mode ++ ((cInt .i64) x.f_N ++ (cBool x.f_Fold))))))))
theorem S_c.enc:Enc S_c.c 12 where
 len x:=by simp only [S_c.c,lLa,(enc_int).len,(S_g.enc).len,(enc_bool).len]
 one x v hv:=by
  simp only [S_c.c,List.mem_append] at hv
  rcases hv with hv | hv | hv | hv | hv | hv | hv | hv | hv
  ·exact (enc_int).one _ v hv
  ·exact (enc_int).one _ v hv
  ·exact (enc_int).one _ v hv
  ·exact (S_g.enc).one _ v hv
  ·exact (enc_int).one _ v hv
  ·exact (enc_int).one _ v hv
  ·exact (enc_int).one _ v hv
  ·exact (enc_int).one _ v hv
  ·exact (enc_bool).one _ v hv
 flat x v hv:=by
  simp only [S_c.c,List.mem_append] at hv
  rcases hv with hv | hv | hv | hv | hv | hv | hv | hv | hv
  ·exact (enc_int).flat _ v hv
  ·exact (enc_int).flat _ v hv
  ·exact (enc_int).flat _ v hv
  ·exact (S_g.enc).flat _ v hv
  ·exact (enc_int).flat _ v hv
  ·exact (enc_int).flat _ v hv
  ·exact (enc_int).flat _ v hv
  ·exact (enc_int).flat _ v hv
  ·exact (enc_bool).flat _ v hv
 inj a b h:=by
  simp only [S_c.c] at h;obtain ⟨h0,h⟩:=List.append_inj h (by rw [(enc_int).len,(enc_int).len]);obtain ⟨h1,h⟩:=List.append_inj h (by rw [(enc_int).len,(enc_int).len]);obtain ⟨h2,h⟩:=List.append_inj h (by rw [(enc_int).len,(enc_int).len]);obtain ⟨h3,h⟩:=List.append_inj h (by rw [(S_g.enc).len,(S_g.enc).len]);obtain ⟨h4,h⟩:=List.append_inj h (by rw [(enc_int).len,(enc_int).len]);obtain ⟨h5,h⟩:=List.append_inj h (by rw [(enc_int).len,(enc_int).len]);obtain ⟨h6,h⟩:=List.append_inj h (by rw [(enc_int).len,(enc_int).len]);obtain ⟨h7,h⟩:=List.append_inj h (by rw [(enc_int).len,(enc_int).len]);have e8:=(enc_bool).inj _ _ h;have e0:=(enc_int).inj _ _ h0;have e1:=(enc_int).inj _ _ h1;have e2:=(enc_int).inj _ _ h2;have e3:=(S_g.enc).inj _ _ h3;have e4:=(enc_int).inj _ _ h4;have e5:=(enc_int).inj _ _ h5;have e6:=(enc_int).inj _ _ h6;have e7:=(enc_int).inj _ _ h7;obtain ⟨a0,a1,a2,a3,a4,a5,a6,a7,a8⟩:=a;obtain ⟨b0,b1,b2,b3,b4,b5,b6,b7,b8⟩:=b
  dsimp only at e0 e1 e2 e3 e4 e5 e6 e7 e8
  subst e0 e1 e2 e3 e4 e5 e6 e7 e8;rfl
def S_c.zero:S_c:=⟨0,0,0,S_g.zero,0,0,0,0,false⟩
theorem S_c.seg0 (x:S_c):Seg (S_c.c x) 0 ((cInt .i64) x.f_Kind):=seg_begin
theorem S_c.wr0 (x:S_c) (y:Int):wrs (S_c.c x) 0 ((cInt .i64) y) = S_c.c { x with f_Kind:=y }:=wrs_begin (by rw [(enc_int).len,(enc_int).len])
abbrev S_c.w1 (x:S_c) (y:Int):S_c:={ x with f_A:=y }
theorem S_c.seg1 (x:S_c):Seg (S_c.c x) 1 ((cInt .i64) x.f_A):=by
 have h:S_c.c x = ((cInt .i64) x.f_Kind) ++ ((cInt .i64) x.f_A ++ ((cInt .i64) x.f_B ++ (S_g.c x.f_Set ++ ((cInt .i64) x.f_Min ++ ((cInt .i64) x.f_Max ++ ((cInt .i64) x.f_Mode ++ ((cInt .i64) x.f_N ++ (cBool x.f_Fold)))))))):=by simp only [S_c.c,lAs]
 rw [h]; exact seg_mid (by simp only [lLa,(enc_int).len,(S_g.enc).len,(enc_bool).len])
theorem S_c.wr1 (x:S_c) (y:Int):wrs (S_c.c x) 1 ((cInt .i64) y) = S_c.c { x with f_A:=y }:=by
 have h:S_c.c x = ((cInt .i64) x.f_Kind) ++ ((cInt .i64) x.f_A ++ ((cInt .i64) x.f_B ++ (S_g.c x.f_Set ++ ((cInt .i64) x.f_Min ++ ((cInt .i64) x.f_Max ++ ((cInt .i64) x.f_Mode ++ ((cInt .i64) x.f_N ++ (cBool x.f_Fold)))))))):=by simp only [S_c.c,lAs]
 rw [h,wrs_mid (by simp only [lLa,(enc_int).len,(S_g.enc).len,(enc_bool).len]) (by rw [(enc_int).len,(enc_int).len])]; simp only [S_c.c,lAs]
abbrev S_c.w2 (x:S_c) (y:Int):S_c:={ x with f_B:=y }
theorem S_c.seg2 (x:S_c):Seg (S_c.c x) 2 ((cInt .i64) x.f_B):=by
 have h:S_c.c x = (((cInt .i64) x.f_Kind) ++ (cInt .i64) x.f_A) ++ ((cInt .i64) x.f_B ++ (S_g.c x.f_Set ++ ((cInt .i64) x.f_Min ++ ((cInt .i64) x.f_Max ++ ((cInt .i64) x.f_Mode ++ ((cInt .i64) x.f_N ++ (cBool x.f_Fold))))))):=by simp only [S_c.c,lAs]
 rw [h]; exact seg_mid (by simp only [lLa,(enc_int).len,(S_g.enc).len,(enc_bool).len])
theorem S_c.wr2 (x:S_c) (y:Int):wrs (S_c.c x) 2 ((cInt .i64) y) = S_c.c { x with f_B:=y }:=by
 have h:S_c.c x = (((cInt .i64) x.f_Kind) ++ (cInt .i64) x.f_A) ++ ((cInt .i64) x.f_B ++ (S_g.c x.f_Set ++ ((cInt .i64) x.f_Min ++ ((cInt .i64) x.f_Max ++ ((cInt .i64) x.f_Mode ++ ((cInt .i64) x.f_N ++ (cBool x.f_Fold))))))):=by simp only [S_c.c,lAs]
 rw [h,wrs_mid (by simp only [lLa,(enc_int).len,(S_g.enc).len,(enc_bool).len]) (by rw [(enc_int).len,(enc_int).len])]; simp only [S_c.c,lAs]
theorem S_c.seg3 (x:S_c):Seg (S_c.c x) 3 (S_g.c x.f_Set):=by
 have h:S_c.c x = ((((cInt .i64) x.f_Kind) ++ (cInt .i64) x.f_A) ++ (cInt .i64) x.f_B) ++ (S_g.c x.f_Set ++ ((cInt .i64) x.f_Min ++ ((cInt .i64) x.f_Max ++ ((cInt .i64) x.f_Mode ++ ((cInt .i64) x.f_N ++ (cBool x.f_Fold)))))):=by simp only [S_c.c,lAs]
 rw [h]; exact seg_mid (by simp only [lLa,(enc_int).len,(S_g.enc).len,(enc_bool).len])
theorem S_c.seg4 (x:S_c):Seg (S_c.c x) 7 ((cInt .i64) x.f_Min):=by
 have h:S_c.c x = (((((cInt .i64) x.f_Kind) ++ (cInt .i64) x.f_A) ++ (cInt .i64) x.f_B) ++ S_g.c x.f_Set) ++ ((cInt .i64) x.f_Min ++ ((cInt .i64) x.f_Max ++ ((cInt .i64) x.f_Mode ++ ((cInt .i64) x.f_N ++ (cBool x.f_Fold))))):=by simp only [S_c.c,lAs]
 rw [h]; exact seg_mid (by simp only [lLa,(enc_int).len,(S_g.enc).len,(enc_bool).len])
theorem S_c.seg5 (x:S_c):Seg (S_c.c x) 8 ((cInt .i64) x.f_Max):=by
 have h:S_c.c x = ((((((cInt .i64) x.f_Kind) ++ (cInt .i64) x.f_A) ++ (cInt .i64) x.f_B) ++ S_g.c x.f_Set) ++ (cInt .i64) x.f_Min) ++ ((cInt .i64) x.f_Max ++ ((cInt .i64) x.f_Mode ++ ((cInt .i64) x.f_N ++ (cBool x.f_Fold)))):=by simp only [S_c.c,lAs]
 rw [h]; exact seg_mid (by simp only [lLa,(enc_int).len,(S_g.enc).len,(enc_bool).len])
theorem S_c.seg6 (x:S_c):Seg (S_c.c x) 9 ((cInt .i64) x.f_Mode):=by
 have h:S_c.c x = (((((((cInt .i64) x.f_Kind) ++ (cInt .i64) x.f_A) ++ (cInt .i64) x.f_B) ++ S_g.c x.f_Set) ++ (cInt .i64) x.f_Min) ++ (cInt .i64) x.f_Max) ++ ((cInt .i64) x.f_Mode ++ ((cInt .i64) x.f_N ++ (cBool x.f_Fold))):=by simp only [S_c.c,lAs]
 rw [h]; exact seg_mid (by simp only [lLa,(enc_int).len,(S_g.enc).len,(enc_bool).len])
theorem S_c.seg7 (x:S_c):Seg (S_c.c x) 10 ((cInt .i64) x.f_N):=by
 have h:S_c.c x = ((((((((cInt .i64) x.f_Kind) ++ (cInt .i64) x.f_A) ++ (cInt .i64) x.f_B) ++ S_g.c x.f_Set) ++ (cInt .i64) x.f_Min) ++ (cInt .i64) x.f_Max) ++ (cInt .i64) x.f_Mode) ++ ((cInt .i64) x.f_N ++ (cBool x.f_Fold)):=by simp only [S_c.c,lAs]
 rw [h]; exact seg_mid (by simp only [lLa,(enc_int).len,(S_g.enc).len,(enc_bool).len])
theorem S_c.seg8 (x:S_c):Seg (S_c.c x) 11 (cBool x.f_Fold):=by
 have h:S_c.c x = (((((((((cInt .i64) x.f_Kind) ++ (cInt .i64) x.f_A) ++ (cInt .i64) x.f_B) ++ S_g.c x.f_Set) ++ (cInt .i64) x.f_Min) ++ (cInt .i64) x.f_Max) ++ (cInt .i64) x.f_Mode) ++ (cInt .i64) x.f_N) ++ cBool x.f_Fold:=by simp only [S_c.c,lAs]
 rw [h]; exact seg_end (by simp only [lLa,(enc_int).len,(S_g.enc).len,(enc_bool).len])
theorem zs72:zc Mt.P 72 = some (S_c.c S_c.zero):=T.zc72
theorem fd72_0:fdO Tryz.prog 72 0 = some (3,0):=by kernel_rfl
theorem fa72_0 {H:Hp} {b o:Nat}:faP Mt H 72 0 (.pointer (some ⟨b,o,none⟩)) = some (.val (.pointer (some ⟨b,o + 0,none⟩)),H):=fa_ok fd72_0 T.sz3
theorem fd72_1:fdO Tryz.prog 72 1 = some (3,1):=by kernel_rfl
theorem fa72_1 {H:Hp} {b o:Nat}:faP Mt H 72 1 (.pointer (some ⟨b,o,none⟩)) = some (.val (.pointer (some ⟨b,o + 1,none⟩)),H):=fa_ok fd72_1 T.sz3
theorem fd72_2:fdO Tryz.prog 72 2 = some (3,2):=by kernel_rfl
theorem fa72_2 {H:Hp} {b o:Nat}:faP Mt H 72 2 (.pointer (some ⟨b,o,none⟩)) = some (.val (.pointer (some ⟨b,o + 2,none⟩)),H):=fa_ok fd72_2 T.sz3
theorem fd72_3:fdO Tryz.prog 72 3 = some (25,3):=by kernel_rfl
theorem fa72_3 {H:Hp} {b o:Nat}:faP Mt H 72 3 (.pointer (some ⟨b,o,none⟩)) = some (.val (.pointer (some ⟨b,o + 3,none⟩)),H):=fa_ok fd72_3 T.sz25
theorem fd72_4:fdO Tryz.prog 72 4 = some (3,7):=by kernel_rfl
theorem fa72_4 {H:Hp} {b o:Nat}:faP Mt H 72 4 (.pointer (some ⟨b,o,none⟩)) = some (.val (.pointer (some ⟨b,o + 7,none⟩)),H):=fa_ok fd72_4 T.sz3
theorem fd72_5:fdO Tryz.prog 72 5 = some (3,8):=by kernel_rfl
theorem fa72_5 {H:Hp} {b o:Nat}:faP Mt H 72 5 (.pointer (some ⟨b,o,none⟩)) = some (.val (.pointer (some ⟨b,o + 8,none⟩)),H):=fa_ok fd72_5 T.sz3
theorem fd72_6:fdO Tryz.prog 72 6 = some (3,9):=by kernel_rfl
theorem fa72_6 {H:Hp} {b o:Nat}:faP Mt H 72 6 (.pointer (some ⟨b,o,none⟩)) = some (.val (.pointer (some ⟨b,o + 9,none⟩)),H):=fa_ok fd72_6 T.sz3
theorem fd72_7:fdO Tryz.prog 72 7 = some (3,10):=by kernel_rfl
theorem fa72_7 {H:Hp} {b o:Nat}:faP Mt H 72 7 (.pointer (some ⟨b,o,none⟩)) = some (.val (.pointer (some ⟨b,o + 10,none⟩)),H):=fa_ok fd72_7 T.sz3
theorem fd72_8:fdO Tryz.prog 72 8 = some (4,11):=by kernel_rfl
theorem fa72_8 {H:Hp} {b o:Nat}:faP Mt H 72 8 (.pointer (some ⟨b,o,none⟩)) = some (.val (.pointer (some ⟨b,o + 11,none⟩)),H):=fa_ok fd72_8 T.sz4
structure S_d where
 f_Kind:Int
 f_A:Int
 f_B:Int
 f_Set:(Arr Int 4)
 f_Min:Int
 f_Max:Int
 f_Mode:Int
 f_N:Int
 f_Fold:Bool
 deriving DecidableEq,Inhabited
def S_d.c (x:S_d):List Value:=(cInt .i64) x.f_Kind ++ ((cInt .i64) x.f_A ++ ((cInt .i64) x.f_B ++ ((cArr (n:=4) (cInt .u64)) x.f_Set ++ ((cInt .i64) x.f_Min ++ ((cInt .i64) x.f_Max ++ ((cInt .i64) x.f_Mode ++ ((cInt .i64) x.f_N ++ (cBool x.f_Fold))))))))
theorem S_d.enc:Enc S_d.c 12 where
 len x:=by simp only [S_d.c,lLa,(enc_int).len,((enc_arr (n:=4) enc_int)).len,(enc_bool).len]
 one x v hv:=by
  simp only [S_d.c,List.mem_append] at hv
  rcases hv with hv | hv | hv | hv | hv | hv | hv | hv | hv
  ·exact (enc_int).one _ v hv
  ·exact (enc_int).one _ v hv
  ·exact (enc_int).one _ v hv
  ·exact ((enc_arr (n:=4) enc_int)).one _ v hv
  ·exact (enc_int).one _ v hv
  ·exact (enc_int).one _ v hv
  ·exact (enc_int).one _ v hv
  ·exact (enc_int).one _ v hv
  ·exact (enc_bool).one _ v hv
 flat x v hv:=by
  simp only [S_d.c,List.mem_append] at hv
  rcases hv with hv | hv | hv | hv | hv | hv | hv | hv | hv
  ·exact (enc_int).flat _ v hv
  ·exact (enc_int).flat _ v hv
  ·exact (enc_int).flat _ v hv
  ·exact ((enc_arr (n:=4) enc_int)).flat _ v hv
  ·exact (enc_int).flat _ v hv
  ·exact (enc_int).flat _ v hv
  ·exact (enc_int).flat _ v hv
  ·exact (enc_int).flat _ v hv
  ·exact (enc_bool).flat _ v hv
 inj a b h:=by
  simp only [S_d.c] at h;obtain ⟨h0,h⟩:=List.append_inj h (by rw [(enc_int).len,(enc_int).len]);obtain ⟨h1,h⟩:=List.append_inj h (by rw [(enc_int).len,(enc_int).len]);obtain ⟨h2,h⟩:=List.append_inj h (by rw [(enc_int).len,(enc_int).len]);obtain ⟨h3,h⟩:=List.append_inj h (by rw [((enc_arr (n:=4) enc_int)).len,((enc_arr (n:=4) enc_int)).len]);obtain ⟨h4,h⟩:=List.append_inj h (by rw [(enc_int).len,(enc_int).len]);obtain ⟨h5,h⟩:=List.append_inj h (by rw [(enc_int).len,(enc_int).len]);obtain ⟨h6,h⟩:=List.append_inj h (by rw [(enc_int).len,(enc_int).len]);obtain ⟨h7,h⟩:=List.append_inj h (by rw [(enc_int).len,(enc_int).len]);have e8:=(enc_bool).inj _ _ h;have e0:=(enc_int).inj _ _ h0;have e1:=(enc_int).inj _ _ h1;have e2:=(enc_int).inj _ _ h2;have e3:=((enc_arr (n:=4) enc_int)).inj _ _ h3;have e4:=(enc_int).inj _ _ h4;have e5:=(enc_int).inj _ _ h5;have e6:=(enc_int).inj _ _ h6;have e7:=(enc_int).inj _ _ h7;obtain ⟨a0,a1,a2,a3,a4,a5,a6,a7,a8⟩:=a;obtain ⟨b0,b1,b2,b3,b4,b5,b6,b7,b8⟩:=b
  dsimp only at e0 e1 e2 e3 e4 e5 e6 e7 e8
  subst e0 e1 e2 e3 e4 e5 e6 e7 e8;rfl
def S_d.zero:S_d:=⟨0,0,0,(Arr.rep 4 0),0,0,0,0,false⟩
theorem S_d.seg0 (x:S_d):Seg (S_d.c x) 0 ((cInt .i64) x.f_Kind):=seg_begin
theorem S_d.wr0 (x:S_d) (y:Int):wrs (S_d.c x) 0 ((cInt .i64) y) = S_d.c { x with f_Kind:=y }:=wrs_begin (by rw [(enc_int).len,(enc_int).len])
theorem S_d.seg1 (x:S_d):Seg (S_d.c x) 1 ((cInt .i64) x.f_A):=by
 have h:S_d.c x = ((cInt .i64) x.f_Kind) ++ ((cInt .i64) x.f_A ++ ((cInt .i64) x.f_B ++ ((cArr (n:=4) (cInt .u64)) x.f_Set ++ ((cInt .i64) x.f_Min ++ ((cInt .i64) x.f_Max ++ ((cInt .i64) x.f_Mode ++ ((cInt .i64) x.f_N ++ (cBool x.f_Fold)))))))):=by simp only [S_d.c,lAs]
 rw [h]; exact seg_mid (by simp only [lLa,(enc_int).len,((enc_arr (n:=4) enc_int)).len,(enc_bool).len])
theorem S_d.wr1 (x:S_d) (y:Int):wrs (S_d.c x) 1 ((cInt .i64) y) = S_d.c { x with f_A:=y }:=by
 have h:S_d.c x = ((cInt .i64) x.f_Kind) ++ ((cInt .i64) x.f_A ++ ((cInt .i64) x.f_B ++ ((cArr (n:=4) (cInt .u64)) x.f_Set ++ ((cInt .i64) x.f_Min ++ ((cInt .i64) x.f_Max ++ ((cInt .i64) x.f_Mode ++ ((cInt .i64) x.f_N ++ (cBool x.f_Fold)))))))):=by simp only [S_d.c,lAs]
 rw [h,wrs_mid (by simp only [lLa,(enc_int).len,((enc_arr (n:=4) enc_int)).len,(enc_bool).len]) (by rw [(enc_int).len,(enc_int).len])]; simp only [S_d.c,lAs]
theorem S_d.seg2 (x:S_d):Seg (S_d.c x) 2 ((cInt .i64) x.f_B):=by
 have h:S_d.c x = (((cInt .i64) x.f_Kind) ++ (cInt .i64) x.f_A) ++ ((cInt .i64) x.f_B ++ ((cArr (n:=4) (cInt .u64)) x.f_Set ++ ((cInt .i64) x.f_Min ++ ((cInt .i64) x.f_Max ++ ((cInt .i64) x.f_Mode ++ ((cInt .i64) x.f_N ++ (cBool x.f_Fold))))))):=by simp only [S_d.c,lAs]
 rw [h]; exact seg_mid (by simp only [lLa,(enc_int).len,((enc_arr (n:=4) enc_int)).len,(enc_bool).len])
theorem S_d.wr2 (x:S_d) (y:Int):wrs (S_d.c x) 2 ((cInt .i64) y) = S_d.c { x with f_B:=y }:=by
 have h:S_d.c x = (((cInt .i64) x.f_Kind) ++ (cInt .i64) x.f_A) ++ ((cInt .i64) x.f_B ++ ((cArr (n:=4) (cInt .u64)) x.f_Set ++ ((cInt .i64) x.f_Min ++ ((cInt .i64) x.f_Max ++ ((cInt .i64) x.f_Mode ++ ((cInt .i64) x.f_N ++ (cBool x.f_Fold))))))):=by simp only [S_d.c,lAs]
 rw [h,wrs_mid (by simp only [lLa,(enc_int).len,((enc_arr (n:=4) enc_int)).len,(enc_bool).len]) (by rw [(enc_int).len,(enc_int).len])]; simp only [S_d.c,lAs]
theorem S_d.seg3 (x:S_d):Seg (S_d.c x) 3 ((cArr (n:=4) (cInt .u64)) x.f_Set):=by
 have h:S_d.c x = ((((cInt .i64) x.f_Kind) ++ (cInt .i64) x.f_A) ++ (cInt .i64) x.f_B) ++ ((cArr (n:=4) (cInt .u64)) x.f_Set ++ ((cInt .i64) x.f_Min ++ ((cInt .i64) x.f_Max ++ ((cInt .i64) x.f_Mode ++ ((cInt .i64) x.f_N ++ (cBool x.f_Fold)))))):=by simp only [S_d.c,lAs]
 rw [h]; exact seg_mid (by simp only [lLa,(enc_int).len,((enc_arr (n:=4) enc_int)).len,(enc_bool).len])
theorem S_d.wr3 (x:S_d) (y:(Arr Int 4)):wrs (S_d.c x) 3 ((cArr (n:=4) (cInt .u64)) y) = S_d.c { x with f_Set:=y }:=by
 have h:S_d.c x = ((((cInt .i64) x.f_Kind) ++ (cInt .i64) x.f_A) ++ (cInt .i64) x.f_B) ++ ((cArr (n:=4) (cInt .u64)) x.f_Set ++ ((cInt .i64) x.f_Min ++ ((cInt .i64) x.f_Max ++ ((cInt .i64) x.f_Mode ++ ((cInt .i64) x.f_N ++ (cBool x.f_Fold)))))):=by simp only [S_d.c,lAs]
 rw [h,wrs_mid (by simp only [lLa,(enc_int).len,((enc_arr (n:=4) enc_int)).len,(enc_bool).len]) (by rw [((enc_arr (n:=4) enc_int)).len,((enc_arr (n:=4) enc_int)).len])]; simp only [S_d.c,lAs]
theorem S_d.seg4 (x:S_d):Seg (S_d.c x) 7 ((cInt .i64) x.f_Min):=by
 have h:S_d.c x = (((((cInt .i64) x.f_Kind) ++ (cInt .i64) x.f_A) ++ (cInt .i64) x.f_B) ++ (cArr (n:=4) (cInt .u64)) x.f_Set) ++ ((cInt .i64) x.f_Min ++ ((cInt .i64) x.f_Max ++ ((cInt .i64) x.f_Mode ++ ((cInt .i64) x.f_N ++ (cBool x.f_Fold))))):=by simp only [S_d.c,lAs]
 rw [h]; exact seg_mid (by simp only [lLa,(enc_int).len,((enc_arr (n:=4) enc_int)).len,(enc_bool).len])
theorem S_d.wr4 (x:S_d) (y:Int):wrs (S_d.c x) 7 ((cInt .i64) y) = S_d.c { x with f_Min:=y }:=by
 have h:S_d.c x = (((((cInt .i64) x.f_Kind) ++ (cInt .i64) x.f_A) ++ (cInt .i64) x.f_B) ++ (cArr (n:=4) (cInt .u64)) x.f_Set) ++ ((cInt .i64) x.f_Min ++ ((cInt .i64) x.f_Max ++ ((cInt .i64) x.f_Mode ++ ((cInt .i64) x.f_N ++ (cBool x.f_Fold))))):=by simp only [S_d.c,lAs]
 rw [h,wrs_mid (by simp only [lLa,(enc_int).len,((enc_arr (n:=4) enc_int)).len,(enc_bool).len]) (by rw [(enc_int).len,(enc_int).len])]; simp only [S_d.c,lAs]
theorem S_d.seg5 (x:S_d):Seg (S_d.c x) 8 ((cInt .i64) x.f_Max):=by
 have h:S_d.c x = ((((((cInt .i64) x.f_Kind) ++ (cInt .i64) x.f_A) ++ (cInt .i64) x.f_B) ++ (cArr (n:=4) (cInt .u64)) x.f_Set) ++ (cInt .i64) x.f_Min) ++ ((cInt .i64) x.f_Max ++ ((cInt .i64) x.f_Mode ++ ((cInt .i64) x.f_N ++ (cBool x.f_Fold)))):=by simp only [S_d.c,lAs]
 rw [h]; exact seg_mid (by simp only [lLa,(enc_int).len,((enc_arr (n:=4) enc_int)).len,(enc_bool).len])
theorem S_d.wr5 (x:S_d) (y:Int):wrs (S_d.c x) 8 ((cInt .i64) y) = S_d.c { x with f_Max:=y }:=by
 have h:S_d.c x = ((((((cInt .i64) x.f_Kind) ++ (cInt .i64) x.f_A) ++ (cInt .i64) x.f_B) ++ (cArr (n:=4) (cInt .u64)) x.f_Set) ++ (cInt .i64) x.f_Min) ++ ((cInt .i64) x.f_Max ++ ((cInt .i64) x.f_Mode ++ ((cInt .i64) x.f_N ++ (cBool x.f_Fold)))):=by simp only [S_d.c,lAs]
 rw [h,wrs_mid (by simp only [lLa,(enc_int).len,((enc_arr (n:=4) enc_int)).len,(enc_bool).len]) (by rw [(enc_int).len,(enc_int).len])]; simp only [S_d.c,lAs]
theorem S_d.seg6 (x:S_d):Seg (S_d.c x) 9 ((cInt .i64) x.f_Mode):=by
 have h:S_d.c x = (((((((cInt .i64) x.f_Kind) ++ (cInt .i64) x.f_A) ++ (cInt .i64) x.f_B) ++ (cArr (n:=4) (cInt .u64)) x.f_Set) ++ (cInt .i64) x.f_Min) ++ (cInt .i64) x.f_Max) ++ ((cInt .i64) x.f_Mode ++ ((cInt .i64) x.f_N ++ (cBool x.f_Fold))):=by simp only [S_d.c,lAs]
 rw [h]; exact seg_mid (by simp only [lLa,(enc_int).len,((enc_arr (n:=4) enc_int)).len,(enc_bool).len])
theorem S_d.wr6 (x:S_d) (y:Int):wrs (S_d.c x) 9 ((cInt .i64) y) = S_d.c { x with f_Mode:=y }:=by
 have h:S_d.c x = (((((((cInt .i64) x.f_Kind) ++ (cInt .i64) x.f_A) ++ (cInt .i64) x.f_B) ++ (cArr (n:=4) (cInt .u64)) x.f_Set) ++ (cInt .i64) x.f_Min) ++ (cInt .i64) x.f_Max) ++ ((cInt .i64) x.f_Mode ++ ((cInt .i64) x.f_N ++ (cBool x.f_Fold))):=by simp only [S_d.c,lAs]
 rw [h,wrs_mid (by simp only [lLa,(enc_int).len,((enc_arr (n:=4) enc_int)).len,(enc_bool).len]) (by rw [(enc_int).len,(enc_int).len])]; simp only [S_d.c,lAs]
theorem S_d.seg7 (x:S_d):Seg (S_d.c x) 10 ((cInt .i64) x.f_N):=by
 have h:S_d.c x = ((((((((cInt .i64) x.f_Kind) ++ (cInt .i64) x.f_A) ++ (cInt .i64) x.f_B) ++ (cArr (n:=4) (cInt .u64)) x.f_Set) ++ (cInt .i64) x.f_Min) ++ (cInt .i64) x.f_Max) ++ (cInt .i64) x.f_Mode) ++ ((cInt .i64) x.f_N ++ (cBool x.f_Fold)):=by simp only [S_d.c,lAs]
 rw [h]; exact seg_mid (by simp only [lLa,(enc_int).len,((enc_arr (n:=4) enc_int)).len,(enc_bool).len])
theorem S_d.wr7 (x:S_d) (y:Int):wrs (S_d.c x) 10 ((cInt .i64) y) = S_d.c { x with f_N:=y }:=by
 have h:S_d.c x = ((((((((cInt .i64) x.f_Kind) ++ (cInt .i64) x.f_A) ++ (cInt .i64) x.f_B) ++ (cArr (n:=4) (cInt .u64)) x.f_Set) ++ (cInt .i64) x.f_Min) ++ (cInt .i64) x.f_Max) ++ (cInt .i64) x.f_Mode) ++ ((cInt .i64) x.f_N ++ (cBool x.f_Fold)):=by simp only [S_d.c,lAs]
 rw [h,wrs_mid (by simp only [lLa,(enc_int).len,((enc_arr (n:=4) enc_int)).len,(enc_bool).len]) (by rw [(enc_int).len,(enc_int).len])]; simp only [S_d.c,lAs]
theorem S_d.seg8 (x:S_d):Seg (S_d.c x) 11 (cBool x.f_Fold):=by
 have h:S_d.c x = (((((((((cInt .i64) x.f_Kind) ++ (cInt .i64) x.f_A) ++ (cInt .i64) x.f_B) ++ (cArr (n:=4) (cInt .u64)) x.f_Set) ++ (cInt .i64) x.f_Min) ++ (cInt .i64) x.f_Max) ++ (cInt .i64) x.f_Mode) ++ (cInt .i64) x.f_N) ++ cBool x.f_Fold:=by simp only [S_d.c,lAs]
 rw [h]; exact seg_end (by simp only [lLa,(enc_int).len,((enc_arr (n:=4) enc_int)).len,(enc_bool).len])
theorem S_d.wr8 (x:S_d) (y:Bool):wrs (S_d.c x) 11 (cBool y) = S_d.c { x with f_Fold:=y }:=by
 have h:S_d.c x = (((((((((cInt .i64) x.f_Kind) ++ (cInt .i64) x.f_A) ++ (cInt .i64) x.f_B) ++ (cArr (n:=4) (cInt .u64)) x.f_Set) ++ (cInt .i64) x.f_Min) ++ (cInt .i64) x.f_Max) ++ (cInt .i64) x.f_Mode) ++ (cInt .i64) x.f_N) ++ cBool x.f_Fold:=by simp only [S_d.c,lAs]
 rw [h,wrs_end (by simp only [lLa,(enc_int).len,((enc_arr (n:=4) enc_int)).len,(enc_bool).len]) (by rw [(enc_bool).len,(enc_bool).len])]; simp only [S_d.c,lAs]
theorem zs97:zc Mt.P 97 = some (S_d.c S_d.zero):=T.zc97
theorem pl97:plO Tryz.prog 97 = some [(0,1),(1,1),(2,1),(3,4),(7,1),(8,1),(9,1),(10,1),(11,1)]:=by kernel_rfl
theorem fd97_0:fdO Tryz.prog 97 0 = some (3,0):=by kernel_rfl
theorem fa97_0 {H:Hp} {b o:Nat}:faP Mt H 97 0 (.pointer (some ⟨b,o,none⟩)) = some (.val (.pointer (some ⟨b,o + 0,none⟩)),H):=fa_ok fd97_0 T.sz3
theorem fd97_1:fdO Tryz.prog 97 1 = some (3,1):=by kernel_rfl
theorem fa97_1 {H:Hp} {b o:Nat}:faP Mt H 97 1 (.pointer (some ⟨b,o,none⟩)) = some (.val (.pointer (some ⟨b,o + 1,none⟩)),H):=fa_ok fd97_1 T.sz3
theorem fd97_2:fdO Tryz.prog 97 2 = some (3,2):=by kernel_rfl
theorem fa97_2 {H:Hp} {b o:Nat}:faP Mt H 97 2 (.pointer (some ⟨b,o,none⟩)) = some (.val (.pointer (some ⟨b,o + 2,none⟩)),H):=fa_ok fd97_2 T.sz3
theorem fd97_3:fdO Tryz.prog 97 3 = some (23,3):=by kernel_rfl
theorem fa97_3 {H:Hp} {b o:Nat}:faP Mt H 97 3 (.pointer (some ⟨b,o,none⟩)) = some (.val (.pointer (some ⟨b,o + 3,none⟩)),H):=fa_ok fd97_3 T.sz23
theorem fd97_4:fdO Tryz.prog 97 4 = some (3,7):=by kernel_rfl
theorem fa97_4 {H:Hp} {b o:Nat}:faP Mt H 97 4 (.pointer (some ⟨b,o,none⟩)) = some (.val (.pointer (some ⟨b,o + 7,none⟩)),H):=fa_ok fd97_4 T.sz3
theorem fd97_5:fdO Tryz.prog 97 5 = some (3,8):=by kernel_rfl
theorem fa97_5 {H:Hp} {b o:Nat}:faP Mt H 97 5 (.pointer (some ⟨b,o,none⟩)) = some (.val (.pointer (some ⟨b,o + 8,none⟩)),H):=fa_ok fd97_5 T.sz3
theorem fd97_6:fdO Tryz.prog 97 6 = some (3,9):=by kernel_rfl
theorem fa97_6 {H:Hp} {b o:Nat}:faP Mt H 97 6 (.pointer (some ⟨b,o,none⟩)) = some (.val (.pointer (some ⟨b,o + 9,none⟩)),H):=fa_ok fd97_6 T.sz3
theorem fd97_7:fdO Tryz.prog 97 7 = some (3,10):=by kernel_rfl
theorem fa97_7 {H:Hp} {b o:Nat}:faP Mt H 97 7 (.pointer (some ⟨b,o,none⟩)) = some (.val (.pointer (some ⟨b,o + 10,none⟩)),H):=fa_ok fd97_7 T.sz3
theorem fd97_8:fdO Tryz.prog 97 8 = some (4,11):=by kernel_rfl
theorem fa97_8 {H:Hp} {b o:Nat}:faP Mt H 97 8 (.pointer (some ⟨b,o,none⟩)) = some (.val (.pointer (some ⟨b,o + 11,none⟩)),H):=fa_ok fd97_8 T.sz4
structure S_a where
 f_Facts:S_e
 f_whole:Bool
 f_none:Bool
 deriving DecidableEq,Inhabited
def S_a.c (x:S_a):List Value:=S_e.c x.f_Facts ++ (cBool x.f_whole ++ (cBool x.f_none))
theorem S_a.enc:Enc S_a.c 9 where
 len x:=by simp only [S_a.c,lLa,(S_e.enc).len,(enc_bool).len]
 one x v hv:=by
  simp only [S_a.c,List.mem_append] at hv
  rcases hv with hv | hv | hv
  ·exact (S_e.enc).one _ v hv
  ·exact (enc_bool).one _ v hv
  ·exact (enc_bool).one _ v hv
 flat x v hv:=by
  simp only [S_a.c,List.mem_append] at hv
  rcases hv with hv | hv | hv
  ·exact (S_e.enc).flat _ v hv
  ·exact (enc_bool).flat _ v hv
  ·exact (enc_bool).flat _ v hv
 inj a b h:=by
  simp only [S_a.c] at h;obtain ⟨h0,h⟩:=List.append_inj h (by rw [(S_e.enc).len,(S_e.enc).len]);obtain ⟨h1,h⟩:=List.append_inj h (by rw [(enc_bool).len,(enc_bool).len]);have e2:=(enc_bool).inj _ _ h;have e0:=(S_e.enc).inj _ _ h0;have e1:=(enc_bool).inj _ _ h1;obtain ⟨a0,a1,a2⟩:=a;obtain ⟨b0,b1,b2⟩:=b
  dsimp only at e0 e1 e2
  subst e0 e1 e2;rfl
def S_a.zero:S_a:=⟨S_e.zero,false,false⟩
abbrev S_a.w0 (x:S_a) (y:S_e):S_a:={ x with f_Facts:=y }
theorem S_a.seg0 (x:S_a):Seg (S_a.c x) 0 (S_e.c x.f_Facts):=seg_begin
theorem S_a.wr0 (x:S_a) (y:S_e):wrs (S_a.c x) 0 (S_e.c y) = S_a.c { x with f_Facts:=y }:=wrs_begin (by rw [(S_e.enc).len,(S_e.enc).len])
abbrev S_a.w1 (x:S_a) (y:Bool):S_a:={ x with f_whole:=y }
theorem S_a.seg1 (x:S_a):Seg (S_a.c x) 7 (cBool x.f_whole):=by
 have h:S_a.c x = (S_e.c x.f_Facts) ++ (cBool x.f_whole ++ (cBool x.f_none)):=by simp only [S_a.c,lAs]
 rw [h]; exact seg_mid (by simp only [lLa,(S_e.enc).len,(enc_bool).len])
theorem S_a.wr1 (x:S_a) (y:Bool):wrs (S_a.c x) 7 (cBool y) = S_a.c { x with f_whole:=y }:=by
 have h:S_a.c x = (S_e.c x.f_Facts) ++ (cBool x.f_whole ++ (cBool x.f_none)):=by simp only [S_a.c,lAs]
 rw [h,wrs_mid (by simp only [lLa,(S_e.enc).len,(enc_bool).len]) (by rw [(enc_bool).len,(enc_bool).len])]; simp only [S_a.c,lAs]
theorem S_a.seg2 (x:S_a):Seg (S_a.c x) 8 (cBool x.f_none):=by
 have h:S_a.c x = ((S_e.c x.f_Facts) ++ cBool x.f_whole) ++ cBool x.f_none:=by simp only [S_a.c,lAs]
 rw [h]; exact seg_end (by simp only [lLa,(S_e.enc).len,(enc_bool).len])
theorem S_a.wr2 (x:S_a) (y:Bool):wrs (S_a.c x) 8 (cBool y) = S_a.c { x with f_none:=y }:=by
 have h:S_a.c x = ((S_e.c x.f_Facts) ++ cBool x.f_whole) ++ cBool x.f_none:=by simp only [S_a.c,lAs]
 rw [h,wrs_end (by simp only [lLa,(S_e.enc).len,(enc_bool).len]) (by rw [(enc_bool).len,(enc_bool).len])]; simp only [S_a.c,lAs]
theorem zs107:zc Mt.P 107 = some (S_a.c S_a.zero):=T.zc107
theorem pl107:plO Tryz.prog 107 = some [(0,7),(7,1),(8,1)]:=by kernel_rfl
theorem fd107_0:fdO Tryz.prog 107 0 = some (54,0):=by kernel_rfl
theorem fa107_0 {H:Hp} {b o:Nat}:faP Mt H 107 0 (.pointer (some ⟨b,o,none⟩)) = some (.val (.pointer (some ⟨b,o + 0,none⟩)),H):=fa_ok fd107_0 T.sz54
theorem fd107_1:fdO Tryz.prog 107 1 = some (4,7):=by kernel_rfl
theorem fa107_1 {H:Hp} {b o:Nat}:faP Mt H 107 1 (.pointer (some ⟨b,o,none⟩)) = some (.val (.pointer (some ⟨b,o + 7,none⟩)),H):=fa_ok fd107_1 T.sz4
theorem fd107_2:fdO Tryz.prog 107 2 = some (4,8):=by kernel_rfl
theorem fa107_2 {H:Hp} {b o:Nat}:faP Mt H 107 2 (.pointer (some ⟨b,o,none⟩)) = some (.val (.pointer (some ⟨b,o + 8,none⟩)),H):=fa_ok fd107_2 T.sz4
theorem zs23:zc Mt.P 23 = some ((cArr (n:=4) (cInt .u64)) (Arr.rep 4 0)):=T.zc23
theorem ix23 {H:Hp} {a:(Arr Int 4)} {k:IntKind} {i:Int}:idxP Mt H 23 (vAgg ((cArr (n:=4) (cInt .u64)) a)) (.int k i) = (ck 4 i).map fun j=>(.val (.int .u64 (a.nth j)),H):=ix_one (v:=fun x=>.int .u64 x) Tryz.underlying23 T.ag22 T.sz22 fun _=>rfl
theorem ia23 {H:Hp} {b o:Nat} {k:IntKind} {i:Int}:iaP Mt H 23 (.pointer (some ⟨b,o,none⟩)) (.int k i) = (ck 4 i).map fun j=>(.val (.pointer (some ⟨b,o + j * 1,none⟩)),H):=ia_arr Tryz.underlying23 T.sz22
theorem ia57 {H:Hp} {b o:Nat} {k:IntKind} {i:Int}:iaP Mt H 57 (.pointer (some ⟨b,o,none⟩)) (.int k i) = (ck 256 i).map fun j=>(.val (.pointer (some ⟨b,o + j * 1,none⟩)),H):=ia_arr Tryz.underlying57 T.sz4
theorem ia206 {H:Hp} {b o:Nat} {k:IntKind} {i:Int}:iaP Mt H 206 (.pointer (some ⟨b,o,none⟩)) (.int k i) = (ck 64 i).map fun j=>(.val (.pointer (some ⟨b,o + j * 1,none⟩)),H):=ia_arr Tryz.underlying206 T.sz5
theorem ia35 {H:Hp} {b:Nat} {x:(Sl S_c)} {k:IntKind} {i:Int}:iaP Mt H 35 (slV x b) (.int k i) = (ck (Sl.l x).length i).map fun j=>(.val (.pointer (some ⟨b,j * 12,none⟩)),H):=ia_sl Tryz.underlying35 T.sz72
theorem ln35 {b:Nat} {x:(Sl S_c)}:lenA Mt.P 35 (slV x b) = some (.int .i64 (Sl.len x)):=len_sl Tryz.underlying35
theorem ia39 {H:Hp} {b:Nat} {x:(Sl S_d)} {k:IntKind} {i:Int}:iaP Mt H 39 (slV x b) (.int k i) = (ck (Sl.l x).length i).map fun j=>(.val (.pointer (some ⟨b,j * 12,none⟩)),H):=ia_sl Tryz.underlying39 T.sz97
theorem ln39 {b:Nat} {x:(Sl S_d)}:lenA Mt.P 39 (slV x b) = some (.int .i64 (Sl.len x)):=len_sl Tryz.underlying39
theorem ia100 {H:Hp} {b:Nat} {x:(Sl Int)} {k:IntKind} {i:Int}:iaP Mt H 100 (slV x b) (.int k i) = (ck (Sl.l x).length i).map fun j=>(.val (.pointer (some ⟨b,j * 1,none⟩)),H):=ia_sl Tryz.underlying100 T.sz3
theorem ln100 {b:Nat} {x:(Sl Int)}:lenA Mt.P 100 (slV x b) = some (.int .i64 (Sl.len x)):=len_sl Tryz.underlying100
theorem ia108 {H:Hp} {b:Nat} {x:(Sl S_a)} {k:IntKind} {i:Int}:iaP Mt H 108 (slV x b) (.int k i) = (ck (Sl.l x).length i).map fun j=>(.val (.pointer (some ⟨b,j * 9,none⟩)),H):=ia_sl Tryz.underlying108 T.sz107
theorem pl37:plO Tryz.prog 37 = some [(0,1)]:=by kernel_rfl
theorem fd37_0:fdO Tryz.prog 37 0 = some (35,0):=by kernel_rfl
theorem fa37_0 {H:Hp} {b o:Nat}:faP Mt H 37 0 (.pointer (some ⟨b,o,none⟩)) = some (.val (.pointer (some ⟨b,o + 0,none⟩)),H):=fa_ok fd37_0 T.sz35
theorem zs3:zc Mt.P 3 = some ((cInt .i64) 0):=T.zc3
theorem zs5:zc Mt.P 5 = some ((cInt .u8) 0):=T.zc5
theorem eqt23:EqT Tryz.prog 23 (fun x=>vAgg ((cArr (n:=4) (cInt .u64)) x)) 2:=eqt_arr (e:=22) Tryz.underlying23 T.sz22 enc_int (eqt_int (k:=.u64) Tryz.underlying22) (.inr ⟨T.ag22,fun _=>rfl⟩)
theorem neq23 {ox oy:Operand} {a b:(Arr Int 4)}:binA Mt.P .neq 23 ox oy (vAgg ((cArr (n:=4) (cInt .u64)) a)) (vAgg ((cArr (n:=4) (cInt .u64)) b)) = some (.bool (!decide (a = b))):=neA_agg (enc_arr (n:=4) enc_int) eqt23 (by decide) (by kernel_rfl)
theorem eqt25:EqT Tryz.prog 25 (fun x=>vAgg (S_g.c x)) 3:=fun d hd x y=>by
 obtain ⟨d,rfl⟩:∃ m,d = m + 1:=⟨d - 1,by omega⟩
 have e:decide (x = y) = (decide (x.f_W = y.f_W) && true):=by
  obtain ⟨a0⟩:=x; obtain ⟨b0⟩:=y;simp [Bool.decide_and]
 rw [e];refine (pr_struct Tryz.underlying25 (by kernel_rfl) d _ _).trans ?_;exact eqF_cons (by decide) (pr_part_agg T.ag23 (by rw [((enc_arr (n:=4) enc_int)).len]; exact T.sz23) (S_g.seg0 _)) (pr_part_agg T.ag23 (by rw [((enc_arr (n:=4) enc_int)).len]; exact T.sz23) (S_g.seg0 _)) (eqt23 d (by omega) _ _) (eqF_nil)
theorem eqt57:EqT Tryz.prog 57 (fun x=>vAgg ((cArr (n:=256) cBool) x)) 2:=eqt_arr (e:=4) Tryz.underlying57 T.sz4 enc_bool (eqt_bool Tryz.underlying4) (.inr ⟨T.ag4,fun _=>rfl⟩)
theorem eqt59:EqT Tryz.prog 59 (fun x=>vAgg (S_f.c x)) 3:=fun d hd x y=>by
 obtain ⟨d,rfl⟩:∃ m,d = m + 1:=⟨d - 1,by omega⟩
 have e:decide (x = y) = (decide (x.f_In = y.f_In) && true):=by
  obtain ⟨a0⟩:=x; obtain ⟨b0⟩:=y;simp [Bool.decide_and]
 rw [e];refine (pr_struct Tryz.underlying59 (by kernel_rfl) d _ _).trans ?_;exact eqF_cons (by decide) (pr_part_agg T.ag57 (by rw [((enc_arr (n:=256) enc_bool)).len]; exact T.sz57) (S_f.seg0 _)) (pr_part_agg T.ag57 (by rw [((enc_arr (n:=256) enc_bool)).len]; exact T.sz57) (S_f.seg0 _)) (eqt57 d (by omega) _ _) (eqF_nil)
theorem eqt61:EqT Tryz.prog 61 (fun x=>vAgg (S_b.c x)) 4:=fun d hd x y=>by
 obtain ⟨d,rfl⟩:∃ m,d = m + 1:=⟨d - 1,by omega⟩
 have e:decide (x = y) = (decide (x.f_First = y.f_First) && (decide (x.f_Open = y.f_Open) && (decide (x.f_Fast = y.f_Fast) && (decide (x.f_Prefix = y.f_Prefix) && true)))):=by
  obtain ⟨a0,a1,a2,a3⟩:=x; obtain ⟨b0,b1,b2,b3⟩:=y;simp [Bool.decide_and]
 rw [e];refine (pr_struct Tryz.underlying61 (by kernel_rfl) d _ _).trans ?_;exact eqF_cons (by decide) (pr_part_agg T.ag59 (by rw [(S_f.enc).len]; exact T.sz59) (S_b.seg0 _)) (pr_part_agg T.ag59 (by rw [(S_f.enc).len]; exact T.sz59) (S_b.seg0 _)) (eqt59 d (by omega) _ _) (eqF_cons (by decide) (pr_part_one T.ag4 (S_b.seg1 _)) (pr_part_one T.ag4 (S_b.seg1 _)) ((eqt_bool Tryz.underlying4) d (by omega) _ _) (eqF_cons (by decide) (pr_part_one T.ag4 (S_b.seg2 _)) (pr_part_one T.ag4 (S_b.seg2 _)) ((eqt_bool Tryz.underlying4) d (by omega) _ _) (eqF_cons (by decide) (pr_part_one T.ag9 (S_b.seg3 _)) (pr_part_one T.ag9 (S_b.seg3 _)) ((eqt_str Tryz.underlying9) d (by omega) _ _) (eqF_nil))))
theorem eql61 {ox oy:Operand} {a b:S_b}:binA Mt.P .eql 61 ox oy (vAgg (S_b.c a)) (vAgg (S_b.c b)) = some (.bool (decide (a = b))):=eqA_agg S_b.enc eqt61 (by decide) (by kernel_rfl)
theorem eqt72:EqT Tryz.prog 72 (fun x=>vAgg (S_c.c x)) 4:=fun d hd x y=>by
 obtain ⟨d,rfl⟩:∃ m,d = m + 1:=⟨d - 1,by omega⟩
 have e:decide (x = y) = (decide (x.f_Kind = y.f_Kind) && (decide (x.f_A = y.f_A) && (decide (x.f_B = y.f_B) && (decide (x.f_Set = y.f_Set) && (decide (x.f_Min = y.f_Min) && (decide (x.f_Max = y.f_Max) && (decide (x.f_Mode = y.f_Mode) && (decide (x.f_N = y.f_N) && (decide (x.f_Fold = y.f_Fold) && true))))))))):=by
  obtain ⟨a0,a1,a2,a3,a4,a5,a6,a7,a8⟩:=x; obtain ⟨b0,b1,b2,b3,b4,b5,b6,b7,b8⟩:=y;simp [Bool.decide_and]
 rw [e];refine (pr_struct Tryz.underlying72 (by kernel_rfl) d _ _).trans ?_;exact eqF_cons (by decide) (pr_part_one T.ag3 (S_c.seg0 _)) (pr_part_one T.ag3 (S_c.seg0 _)) ((eqt_int (k:=.i64) Tryz.underlying3) d (by omega) _ _) (eqF_cons (by decide) (pr_part_one T.ag3 (S_c.seg1 _)) (pr_part_one T.ag3 (S_c.seg1 _)) ((eqt_int (k:=.i64) Tryz.underlying3) d (by omega) _ _) (eqF_cons (by decide) (pr_part_one T.ag3 (S_c.seg2 _)) (pr_part_one T.ag3 (S_c.seg2 _)) ((eqt_int (k:=.i64) Tryz.underlying3) d (by omega) _ _) (eqF_cons (by decide) (pr_part_agg T.ag25 (by rw [(S_g.enc).len]; exact T.sz25) (S_c.seg3 _)) (pr_part_agg T.ag25 (by rw [(S_g.enc).len]; exact T.sz25) (S_c.seg3 _)) (eqt25 d (by omega) _ _) (eqF_cons (by decide) (pr_part_one T.ag3 (S_c.seg4 _)) (pr_part_one T.ag3 (S_c.seg4 _)) ((eqt_int (k:=.i64) Tryz.underlying3) d (by omega) _ _) (eqF_cons (by decide) (pr_part_one T.ag3 (S_c.seg5 _)) (pr_part_one T.ag3 (S_c.seg5 _)) ((eqt_int (k:=.i64) Tryz.underlying3) d (by omega) _ _) (eqF_cons (by decide) (pr_part_one T.ag3 (S_c.seg6 _)) (pr_part_one T.ag3 (S_c.seg6 _)) ((eqt_int (k:=.i64) Tryz.underlying3) d (by omega) _ _) (eqF_cons (by decide) (pr_part_one T.ag3 (S_c.seg7 _)) (pr_part_one T.ag3 (S_c.seg7 _)) ((eqt_int (k:=.i64) Tryz.underlying3) d (by omega) _ _) (eqF_cons (by decide) (pr_part_one T.ag4 (S_c.seg8 _)) (pr_part_one T.ag4 (S_c.seg8 _)) ((eqt_bool Tryz.underlying4) d (by omega) _ _) (eqF_nil)))))))))
theorem neq72 {ox oy:Operand} {a b:S_c}:binA Mt.P .neq 72 ox oy (vAgg (S_c.c a)) (vAgg (S_c.c b)) = some (.bool (!decide (a = b))):=neA_agg S_c.enc eqt72 (by decide) (by kernel_rfl)
end Go.Proofs.YtaadjlpfdajggaaGreatDoor
