/-
  FACTS OF THE TYPES OF THIS SEAT: printed by our own types.py.
-/
import Derived.Test.YtaadjlpfdajggaaGreatDoorProg
import Derived.Test.YtaadjlpfdajggaaGreatDoorAm0
set_option maxRecDepth 100000
namespace Go.Proofs.YtaadjlpfdajggaaGreatDoor.T
open Go Go.AM
theorem ag1 : aggO Tryz.prog 1 = some false := by kernel_rfl
theorem by1 : bytesO Tryz.prog 1 = some 8 := by kernel_rfl
theorem sz1 : szO Tryz.prog 1 = some 1 := by kernel_rfl
theorem zc1 : zc Tryz.prog 1 = some [.nilFunc] := by kernel_rfl
theorem ag2 : aggO Tryz.prog 2 = some false := by kernel_rfl
theorem by2 : bytesO Tryz.prog 2 = some 8 := by kernel_rfl
theorem sz2 : szO Tryz.prog 2 = some 1 := by kernel_rfl
theorem zc2 : zc Tryz.prog 2 = some [.int .i64 0] := by kernel_rfl
theorem ag3 : aggO Tryz.prog 3 = some false := by kernel_rfl
theorem by3 : bytesO Tryz.prog 3 = some 8 := by kernel_rfl
theorem sz3 : szO Tryz.prog 3 = some 1 := by kernel_rfl
theorem zc3 : zc Tryz.prog 3 = some [.int .i64 0] := by kernel_rfl
theorem ag4 : aggO Tryz.prog 4 = some false := by kernel_rfl
theorem by4 : bytesO Tryz.prog 4 = some 1 := by kernel_rfl
theorem sz4 : szO Tryz.prog 4 = some 1 := by kernel_rfl
theorem zc4 : zc Tryz.prog 4 = some [.bool false] := by kernel_rfl
theorem ag5 : aggO Tryz.prog 5 = some false := by kernel_rfl
theorem by5 : bytesO Tryz.prog 5 = some 1 := by kernel_rfl
theorem sz5 : szO Tryz.prog 5 = some 1 := by kernel_rfl
theorem zc5 : zc Tryz.prog 5 = some [.int .u8 0] := by kernel_rfl
theorem ag6 : aggO Tryz.prog 6 = some false := by kernel_rfl
theorem by6 : bytesO Tryz.prog 6 = some 1 := by kernel_rfl
theorem sz6 : szO Tryz.prog 6 = some 1 := by kernel_rfl
theorem zc6 : zc Tryz.prog 6 = some [.int .u8 0] := by kernel_rfl
theorem ag7 : aggO Tryz.prog 7 = some true := by kernel_rfl
theorem by7 : bytesO Tryz.prog 7 = some 24 := by kernel_rfl
theorem sz7 : szO Tryz.prog 7 = some 4 := by kernel_rfl
theorem zc7 : zc Tryz.prog 7 = some [.int .i64 0, .int .i64 0, .bool false, .int .u8 0] := by kernel_rfl
theorem ag8 : aggO Tryz.prog 8 = some true := by kernel_rfl
theorem by8 : bytesO Tryz.prog 8 = some 24 := by kernel_rfl
theorem sz8 : szO Tryz.prog 8 = some 4 := by kernel_rfl
theorem zc8 : zc Tryz.prog 8 = some [.int .i64 0, .int .i64 0, .bool false, .int .u8 0] := by kernel_rfl
theorem ag9 : aggO Tryz.prog 9 = some false := by kernel_rfl
theorem by9 : bytesO Tryz.prog 9 = some 16 := by kernel_rfl
theorem sz9 : szO Tryz.prog 9 = some 1 := by kernel_rfl
theorem zc9 : zc Tryz.prog 9 = some [.string ⟨#[]⟩] := by kernel_rfl
theorem ag10 : aggO Tryz.prog 10 = some false := by kernel_rfl
theorem by10 : bytesO Tryz.prog 10 = some 16 := by kernel_rfl
theorem sz10 : szO Tryz.prog 10 = some 1 := by kernel_rfl
theorem zc10 : zc Tryz.prog 10 = some [.string ⟨#[]⟩] := by kernel_rfl
theorem ag11 : aggO Tryz.prog 11 = some false := by kernel_rfl
theorem by11 : bytesO Tryz.prog 11 = some 16 := by kernel_rfl
theorem sz11 : szO Tryz.prog 11 = some 1 := by kernel_rfl
theorem zc11 : zc Tryz.prog 11 = some [.string ⟨#[]⟩] := by kernel_rfl
theorem ag12 : aggO Tryz.prog 12 = some false := by kernel_rfl
theorem by12 : bytesO Tryz.prog 12 = some 8 := by kernel_rfl
theorem sz12 : szO Tryz.prog 12 = some 1 := by kernel_rfl
theorem zc12 : zc Tryz.prog 12 = some [.int .u64 0] := by kernel_rfl
theorem ag13 : aggO Tryz.prog 13 = some true := by kernel_rfl
theorem by13 : bytesO Tryz.prog 13 = some 24 := by kernel_rfl
theorem sz13 : szO Tryz.prog 13 = some 2 := by kernel_rfl
theorem zc13 : zc Tryz.prog 13 = some [.string ⟨#[]⟩, .int .u64 0] := by kernel_rfl
theorem ag14 : aggO Tryz.prog 14 = some true := by kernel_rfl
theorem by14 : bytesO Tryz.prog 14 = some 24 := by kernel_rfl
theorem sz14 : szO Tryz.prog 14 = some 2 := by kernel_rfl
theorem zc14 : zc Tryz.prog 14 = some [.string ⟨#[]⟩, .int .u64 0] := by kernel_rfl
theorem ag15 : aggO Tryz.prog 15 = some false := by kernel_rfl
theorem by15 : bytesO Tryz.prog 15 = some 8 := by kernel_rfl
theorem sz15 : szO Tryz.prog 15 = some 1 := by kernel_rfl
theorem zc15 : zc Tryz.prog 15 = some [.pointer none] := by kernel_rfl
theorem ag16 : aggO Tryz.prog 16 = some false := by kernel_rfl
theorem by16 : bytesO Tryz.prog 16 = some 8 := by kernel_rfl
theorem sz16 : szO Tryz.prog 16 = some 1 := by kernel_rfl
theorem zc16 : zc Tryz.prog 16 = some [.pointer none] := by kernel_rfl
theorem ag17 : aggO Tryz.prog 17 = some false := by kernel_rfl
theorem by17 : bytesO Tryz.prog 17 = some 8 := by kernel_rfl
theorem sz17 : szO Tryz.prog 17 = some 1 := by kernel_rfl
theorem zc17 : zc Tryz.prog 17 = some [.pointer none] := by kernel_rfl
theorem ag18 : aggO Tryz.prog 18 = some true := by kernel_rfl
theorem by18 : bytesO Tryz.prog 18 = some 8 := by kernel_rfl
theorem sz18 : szO Tryz.prog 18 = some 1 := by kernel_rfl
theorem zc18 : zc Tryz.prog 18 = some [.pointer none] := by kernel_rfl
theorem ag19 : aggO Tryz.prog 19 = some true := by kernel_rfl
theorem by19 : bytesO Tryz.prog 19 = some 8 := by kernel_rfl
theorem sz19 : szO Tryz.prog 19 = some 1 := by kernel_rfl
theorem zc19 : zc Tryz.prog 19 = some [.pointer none] := by kernel_rfl
theorem ag20 : aggO Tryz.prog 20 = some false := by kernel_rfl
theorem by20 : bytesO Tryz.prog 20 = some 16 := by kernel_rfl
theorem sz20 : szO Tryz.prog 20 = some 1 := by kernel_rfl
theorem zc20 : zc Tryz.prog 20 = some [.nilIface] := by kernel_rfl
theorem ag21 : aggO Tryz.prog 21 = some false := by kernel_rfl
theorem by21 : bytesO Tryz.prog 21 = some 4 := by kernel_rfl
theorem sz21 : szO Tryz.prog 21 = some 1 := by kernel_rfl
theorem zc21 : zc Tryz.prog 21 = some [.int .i32 0] := by kernel_rfl
theorem ag22 : aggO Tryz.prog 22 = some false := by kernel_rfl
theorem by22 : bytesO Tryz.prog 22 = some 8 := by kernel_rfl
theorem sz22 : szO Tryz.prog 22 = some 1 := by kernel_rfl
theorem zc22 : zc Tryz.prog 22 = some [.int .u64 0] := by kernel_rfl
theorem ag23 : aggO Tryz.prog 23 = some true := by kernel_rfl
theorem by23 : bytesO Tryz.prog 23 = some 32 := by kernel_rfl
theorem sz23 : szO Tryz.prog 23 = some 4 := by kernel_rfl
theorem zc23 : zc Tryz.prog 23 = some [.int .u64 0, .int .u64 0, .int .u64 0, .int .u64 0] := by kernel_rfl
theorem ag24 : aggO Tryz.prog 24 = some true := by kernel_rfl
theorem by24 : bytesO Tryz.prog 24 = some 32 := by kernel_rfl
theorem sz24 : szO Tryz.prog 24 = some 4 := by kernel_rfl
theorem zc24 : zc Tryz.prog 24 = some [.int .u64 0, .int .u64 0, .int .u64 0, .int .u64 0] := by kernel_rfl
theorem ag25 : aggO Tryz.prog 25 = some true := by kernel_rfl
theorem by25 : bytesO Tryz.prog 25 = some 32 := by kernel_rfl
theorem sz25 : szO Tryz.prog 25 = some 4 := by kernel_rfl
theorem zc25 : zc Tryz.prog 25 = some [.int .u64 0, .int .u64 0, .int .u64 0, .int .u64 0] := by kernel_rfl
theorem ag26 : aggO Tryz.prog 26 = some false := by kernel_rfl
theorem by26 : bytesO Tryz.prog 26 = some 8 := by kernel_rfl
theorem sz26 : szO Tryz.prog 26 = some 1 := by kernel_rfl
theorem zc26 : zc Tryz.prog 26 = some [.nilFunc] := by kernel_rfl
theorem ag27 : aggO Tryz.prog 27 = some false := by kernel_rfl
theorem by27 : bytesO Tryz.prog 27 = some 24 := by kernel_rfl
theorem sz27 : szO Tryz.prog 27 = some 1 := by kernel_rfl
theorem zc27 : zc Tryz.prog 27 = some [.slice none 0 0] := by kernel_rfl
theorem ag28 : aggO Tryz.prog 28 = some false := by kernel_rfl
theorem by28 : bytesO Tryz.prog 28 = some 8 := by kernel_rfl
theorem sz28 : szO Tryz.prog 28 = some 1 := by kernel_rfl
theorem zc28 : zc Tryz.prog 28 = some [.int .i64 0] := by kernel_rfl
theorem ag30 : aggO Tryz.prog 30 = some false := by kernel_rfl
theorem by30 : bytesO Tryz.prog 30 = some 8 := by kernel_rfl
theorem sz30 : szO Tryz.prog 30 = some 1 := by kernel_rfl
theorem zc30 : zc Tryz.prog 30 = some [.nilFunc] := by kernel_rfl
theorem ag31 : aggO Tryz.prog 31 = some false := by kernel_rfl
theorem by31 : bytesO Tryz.prog 31 = some 8 := by kernel_rfl
theorem sz31 : szO Tryz.prog 31 = some 1 := by kernel_rfl
theorem zc31 : zc Tryz.prog 31 = some [.nilFunc] := by kernel_rfl
theorem ag32 : aggO Tryz.prog 32 = some true := by kernel_rfl
theorem by32 : bytesO Tryz.prog 32 = some 88 := by kernel_rfl
theorem sz32 : szO Tryz.prog 32 = some 10 := by kernel_rfl
theorem zc32 : zc Tryz.prog 32 = some [.int .i64 0, .int .u64 0, .int .u64 0, .int .u64 0, .int .u64 0, .int .i64 0, .int .i64 0, .int .i64 0, .int .i64 0, .string ⟨#[]⟩] := by kernel_rfl
theorem ag33 : aggO Tryz.prog 33 = some true := by kernel_rfl
theorem by33 : bytesO Tryz.prog 33 = some 88 := by kernel_rfl
theorem sz33 : szO Tryz.prog 33 = some 10 := by kernel_rfl
theorem zc33 : zc Tryz.prog 33 = some [.int .i64 0, .int .u64 0, .int .u64 0, .int .u64 0, .int .u64 0, .int .i64 0, .int .i64 0, .int .i64 0, .int .i64 0, .string ⟨#[]⟩] := by kernel_rfl
theorem ag34 : aggO Tryz.prog 34 = some false := by kernel_rfl
theorem by34 : bytesO Tryz.prog 34 = some 8 := by kernel_rfl
theorem sz34 : szO Tryz.prog 34 = some 1 := by kernel_rfl
theorem zc34 : zc Tryz.prog 34 = some [.nilFunc] := by kernel_rfl
theorem ag35 : aggO Tryz.prog 35 = some false := by kernel_rfl
theorem by35 : bytesO Tryz.prog 35 = some 24 := by kernel_rfl
theorem sz35 : szO Tryz.prog 35 = some 1 := by kernel_rfl
theorem zc35 : zc Tryz.prog 35 = some [.slice none 0 0] := by kernel_rfl
theorem ag36 : aggO Tryz.prog 36 = some true := by kernel_rfl
theorem by36 : bytesO Tryz.prog 36 = some 24 := by kernel_rfl
theorem sz36 : szO Tryz.prog 36 = some 1 := by kernel_rfl
theorem zc36 : zc Tryz.prog 36 = some [.slice none 0 0] := by kernel_rfl
theorem ag37 : aggO Tryz.prog 37 = some true := by kernel_rfl
theorem by37 : bytesO Tryz.prog 37 = some 24 := by kernel_rfl
theorem sz37 : szO Tryz.prog 37 = some 1 := by kernel_rfl
theorem zc37 : zc Tryz.prog 37 = some [.slice none 0 0] := by kernel_rfl
theorem ag38 : aggO Tryz.prog 38 = some false := by kernel_rfl
theorem by38 : bytesO Tryz.prog 38 = some 8 := by kernel_rfl
theorem sz38 : szO Tryz.prog 38 = some 1 := by kernel_rfl
theorem zc38 : zc Tryz.prog 38 = some [.nilFunc] := by kernel_rfl
theorem ag39 : aggO Tryz.prog 39 = some false := by kernel_rfl
theorem by39 : bytesO Tryz.prog 39 = some 24 := by kernel_rfl
theorem sz39 : szO Tryz.prog 39 = some 1 := by kernel_rfl
theorem zc39 : zc Tryz.prog 39 = some [.slice none 0 0] := by kernel_rfl
theorem ag40 : aggO Tryz.prog 40 = some false := by kernel_rfl
theorem by40 : bytesO Tryz.prog 40 = some 8 := by kernel_rfl
theorem sz40 : szO Tryz.prog 40 = some 1 := by kernel_rfl
theorem zc40 : zc Tryz.prog 40 = some [.nilFunc] := by kernel_rfl
theorem ag42 : aggO Tryz.prog 42 = some false := by kernel_rfl
theorem by42 : bytesO Tryz.prog 42 = some 8 := by kernel_rfl
theorem sz42 : szO Tryz.prog 42 = some 1 := by kernel_rfl
theorem zc42 : zc Tryz.prog 42 = some [.nilFunc] := by kernel_rfl
theorem ag43 : aggO Tryz.prog 43 = some false := by kernel_rfl
theorem by43 : bytesO Tryz.prog 43 = some 8 := by kernel_rfl
theorem sz43 : szO Tryz.prog 43 = some 1 := by kernel_rfl
theorem zc43 : zc Tryz.prog 43 = some [.nilFunc] := by kernel_rfl
theorem ag44 : aggO Tryz.prog 44 = some false := by kernel_rfl
theorem by44 : bytesO Tryz.prog 44 = some 8 := by kernel_rfl
theorem sz44 : szO Tryz.prog 44 = some 1 := by kernel_rfl
theorem ag46 : aggO Tryz.prog 46 = some false := by kernel_rfl
theorem by46 : bytesO Tryz.prog 46 = some 8 := by kernel_rfl
theorem sz46 : szO Tryz.prog 46 = some 1 := by kernel_rfl
theorem zc46 : zc Tryz.prog 46 = some [.nilFunc] := by kernel_rfl
theorem ag47 : aggO Tryz.prog 47 = some false := by kernel_rfl
theorem by47 : bytesO Tryz.prog 47 = some 8 := by kernel_rfl
theorem sz47 : szO Tryz.prog 47 = some 1 := by kernel_rfl
theorem zc47 : zc Tryz.prog 47 = some [.nilFunc] := by kernel_rfl
theorem ag48 : aggO Tryz.prog 48 = some true := by kernel_rfl
theorem ag49 : aggO Tryz.prog 49 = some true := by kernel_rfl
theorem ag51 : aggO Tryz.prog 51 = some false := by kernel_rfl
theorem by51 : bytesO Tryz.prog 51 = some 8 := by kernel_rfl
theorem sz51 : szO Tryz.prog 51 = some 1 := by kernel_rfl
theorem zc51 : zc Tryz.prog 51 = some [.nilFunc] := by kernel_rfl
theorem ag52 : aggO Tryz.prog 52 = some false := by kernel_rfl
theorem by52 : bytesO Tryz.prog 52 = some 8 := by kernel_rfl
theorem sz52 : szO Tryz.prog 52 = some 1 := by kernel_rfl
theorem zc52 : zc Tryz.prog 52 = some [.nilFunc] := by kernel_rfl
theorem ag53 : aggO Tryz.prog 53 = some true := by kernel_rfl
theorem by53 : bytesO Tryz.prog 53 = some 56 := by kernel_rfl
theorem sz53 : szO Tryz.prog 53 = some 7 := by kernel_rfl
theorem zc53 : zc Tryz.prog 53 = some [.int .u64 0, .int .u64 0, .int .u64 0, .int .u64 0, .bool false, .bool false, .string ⟨#[]⟩] := by kernel_rfl
theorem ag54 : aggO Tryz.prog 54 = some true := by kernel_rfl
theorem by54 : bytesO Tryz.prog 54 = some 56 := by kernel_rfl
theorem sz54 : szO Tryz.prog 54 = some 7 := by kernel_rfl
theorem zc54 : zc Tryz.prog 54 = some [.int .u64 0, .int .u64 0, .int .u64 0, .int .u64 0, .bool false, .bool false, .string ⟨#[]⟩] := by kernel_rfl
theorem ag56 : aggO Tryz.prog 56 = some false := by kernel_rfl
theorem by56 : bytesO Tryz.prog 56 = some 8 := by kernel_rfl
theorem sz56 : szO Tryz.prog 56 = some 1 := by kernel_rfl
theorem zc56 : zc Tryz.prog 56 = some [.nilFunc] := by kernel_rfl
theorem ag57 : aggO Tryz.prog 57 = some true := by kernel_rfl
theorem by57 : bytesO Tryz.prog 57 = some 256 := by kernel_rfl
theorem sz57 : szO Tryz.prog 57 = some 256 := by kernel_rfl
theorem zc57 : zc Tryz.prog 57 = some (List.replicate 256 (.bool false)) := by kernel_rfl
theorem ag58 : aggO Tryz.prog 58 = some true := by kernel_rfl
theorem by58 : bytesO Tryz.prog 58 = some 256 := by kernel_rfl
theorem sz58 : szO Tryz.prog 58 = some 256 := by kernel_rfl
theorem zc58 : zc Tryz.prog 58 = some (List.replicate 256 (.bool false)) := by kernel_rfl
theorem ag59 : aggO Tryz.prog 59 = some true := by kernel_rfl
theorem by59 : bytesO Tryz.prog 59 = some 256 := by kernel_rfl
theorem sz59 : szO Tryz.prog 59 = some 256 := by kernel_rfl
theorem zc59 : zc Tryz.prog 59 = some (List.replicate 256 (.bool false)) := by kernel_rfl
theorem ag60 : aggO Tryz.prog 60 = some true := by kernel_rfl
theorem by60 : bytesO Tryz.prog 60 = some 280 := by kernel_rfl
theorem sz60 : szO Tryz.prog 60 = some 259 := by kernel_rfl
theorem ag61 : aggO Tryz.prog 61 = some true := by kernel_rfl
theorem by61 : bytesO Tryz.prog 61 = some 280 := by kernel_rfl
theorem sz61 : szO Tryz.prog 61 = some 259 := by kernel_rfl
theorem ag63 : aggO Tryz.prog 63 = some false := by kernel_rfl
theorem by63 : bytesO Tryz.prog 63 = some 8 := by kernel_rfl
theorem sz63 : szO Tryz.prog 63 = some 1 := by kernel_rfl
theorem zc63 : zc Tryz.prog 63 = some [.nilFunc] := by kernel_rfl
theorem ag64 : aggO Tryz.prog 64 = some false := by kernel_rfl
theorem by64 : bytesO Tryz.prog 64 = some 8 := by kernel_rfl
theorem sz64 : szO Tryz.prog 64 = some 1 := by kernel_rfl
theorem zc64 : zc Tryz.prog 64 = some [.nilFunc] := by kernel_rfl
theorem ag65 : aggO Tryz.prog 65 = some false := by kernel_rfl
theorem by65 : bytesO Tryz.prog 65 = some 8 := by kernel_rfl
theorem sz65 : szO Tryz.prog 65 = some 1 := by kernel_rfl
theorem zc65 : zc Tryz.prog 65 = some [.nilFunc] := by kernel_rfl
theorem ag66 : aggO Tryz.prog 66 = some false := by kernel_rfl
theorem by66 : bytesO Tryz.prog 66 = some 8 := by kernel_rfl
theorem sz66 : szO Tryz.prog 66 = some 1 := by kernel_rfl
theorem zc66 : zc Tryz.prog 66 = some [.nilFunc] := by kernel_rfl
theorem ag67 : aggO Tryz.prog 67 = some false := by kernel_rfl
theorem by67 : bytesO Tryz.prog 67 = some 8 := by kernel_rfl
theorem sz67 : szO Tryz.prog 67 = some 1 := by kernel_rfl
theorem zc67 : zc Tryz.prog 67 = some [.nilFunc] := by kernel_rfl
theorem ag68 : aggO Tryz.prog 68 = some false := by kernel_rfl
theorem by68 : bytesO Tryz.prog 68 = some 8 := by kernel_rfl
theorem sz68 : szO Tryz.prog 68 = some 1 := by kernel_rfl
theorem zc68 : zc Tryz.prog 68 = some [.nilFunc] := by kernel_rfl
theorem ag69 : aggO Tryz.prog 69 = some false := by kernel_rfl
theorem by69 : bytesO Tryz.prog 69 = some 8 := by kernel_rfl
theorem sz69 : szO Tryz.prog 69 = some 1 := by kernel_rfl
theorem zc69 : zc Tryz.prog 69 = some [.nilFunc] := by kernel_rfl
theorem ag70 : aggO Tryz.prog 70 = some false := by kernel_rfl
theorem by70 : bytesO Tryz.prog 70 = some 8 := by kernel_rfl
theorem sz70 : szO Tryz.prog 70 = some 1 := by kernel_rfl
theorem zc70 : zc Tryz.prog 70 = some [.nilFunc] := by kernel_rfl
theorem ag71 : aggO Tryz.prog 71 = some true := by kernel_rfl
theorem by71 : bytesO Tryz.prog 71 = some 96 := by kernel_rfl
theorem sz71 : szO Tryz.prog 71 = some 12 := by kernel_rfl
theorem zc71 : zc Tryz.prog 71 = some [.int .i64 0, .int .i64 0, .int .i64 0, .int .u64 0, .int .u64 0, .int .u64 0, .int .u64 0, .int .i64 0, .int .i64 0, .int .i64 0, .int .i64 0, .bool false] := by kernel_rfl
theorem ag72 : aggO Tryz.prog 72 = some true := by kernel_rfl
theorem by72 : bytesO Tryz.prog 72 = some 96 := by kernel_rfl
theorem sz72 : szO Tryz.prog 72 = some 12 := by kernel_rfl
theorem zc72 : zc Tryz.prog 72 = some [.int .i64 0, .int .i64 0, .int .i64 0, .int .u64 0, .int .u64 0, .int .u64 0, .int .u64 0, .int .i64 0, .int .i64 0, .int .i64 0, .int .i64 0, .bool false] := by kernel_rfl
theorem ag73 : aggO Tryz.prog 73 = some false := by kernel_rfl
theorem by73 : bytesO Tryz.prog 73 = some 8 := by kernel_rfl
theorem sz73 : szO Tryz.prog 73 = some 1 := by kernel_rfl
theorem zc73 : zc Tryz.prog 73 = some [.nilFunc] := by kernel_rfl
theorem ag75 : aggO Tryz.prog 75 = some false := by kernel_rfl
theorem by75 : bytesO Tryz.prog 75 = some 8 := by kernel_rfl
theorem sz75 : szO Tryz.prog 75 = some 1 := by kernel_rfl
theorem zc75 : zc Tryz.prog 75 = some [.nilFunc] := by kernel_rfl
theorem ag76 : aggO Tryz.prog 76 = some false := by kernel_rfl
theorem by76 : bytesO Tryz.prog 76 = some 8 := by kernel_rfl
theorem sz76 : szO Tryz.prog 76 = some 1 := by kernel_rfl
theorem zc76 : zc Tryz.prog 76 = some [.nilFunc] := by kernel_rfl
theorem ag77 : aggO Tryz.prog 77 = some false := by kernel_rfl
theorem by77 : bytesO Tryz.prog 77 = some 8 := by kernel_rfl
theorem sz77 : szO Tryz.prog 77 = some 1 := by kernel_rfl
theorem zc77 : zc Tryz.prog 77 = some [.nilFunc] := by kernel_rfl
theorem ag78 : aggO Tryz.prog 78 = some false := by kernel_rfl
theorem by78 : bytesO Tryz.prog 78 = some 8 := by kernel_rfl
theorem sz78 : szO Tryz.prog 78 = some 1 := by kernel_rfl
theorem zc78 : zc Tryz.prog 78 = some [.nilFunc] := by kernel_rfl
theorem ag79 : aggO Tryz.prog 79 = some false := by kernel_rfl
theorem by79 : bytesO Tryz.prog 79 = some 8 := by kernel_rfl
theorem sz79 : szO Tryz.prog 79 = some 1 := by kernel_rfl
theorem zc79 : zc Tryz.prog 79 = some [.nilFunc] := by kernel_rfl
theorem ag80 : aggO Tryz.prog 80 = some false := by kernel_rfl
theorem by80 : bytesO Tryz.prog 80 = some 8 := by kernel_rfl
theorem sz80 : szO Tryz.prog 80 = some 1 := by kernel_rfl
theorem zc80 : zc Tryz.prog 80 = some [.nilFunc] := by kernel_rfl
theorem ag81 : aggO Tryz.prog 81 = some false := by kernel_rfl
theorem by81 : bytesO Tryz.prog 81 = some 8 := by kernel_rfl
theorem sz81 : szO Tryz.prog 81 = some 1 := by kernel_rfl
theorem zc81 : zc Tryz.prog 81 = some [.nilFunc] := by kernel_rfl
theorem ag82 : aggO Tryz.prog 82 = some false := by kernel_rfl
theorem by82 : bytesO Tryz.prog 82 = some 8 := by kernel_rfl
theorem sz82 : szO Tryz.prog 82 = some 1 := by kernel_rfl
theorem zc82 : zc Tryz.prog 82 = some [.nilFunc] := by kernel_rfl
theorem ag84 : aggO Tryz.prog 84 = some false := by kernel_rfl
theorem by84 : bytesO Tryz.prog 84 = some 8 := by kernel_rfl
theorem sz84 : szO Tryz.prog 84 = some 1 := by kernel_rfl
theorem zc84 : zc Tryz.prog 84 = some [.nilFunc] := by kernel_rfl
theorem ag85 : aggO Tryz.prog 85 = some false := by kernel_rfl
theorem by85 : bytesO Tryz.prog 85 = some 8 := by kernel_rfl
theorem sz85 : szO Tryz.prog 85 = some 1 := by kernel_rfl
theorem zc85 : zc Tryz.prog 85 = some [.nilFunc] := by kernel_rfl
theorem ag86 : aggO Tryz.prog 86 = some false := by kernel_rfl
theorem by86 : bytesO Tryz.prog 86 = some 24 := by kernel_rfl
theorem sz86 : szO Tryz.prog 86 = some 1 := by kernel_rfl
theorem zc86 : zc Tryz.prog 86 = some [.slice none 0 0] := by kernel_rfl
theorem ag87 : aggO Tryz.prog 87 = some false := by kernel_rfl
theorem by87 : bytesO Tryz.prog 87 = some 8 := by kernel_rfl
theorem sz87 : szO Tryz.prog 87 = some 1 := by kernel_rfl
theorem zc87 : zc Tryz.prog 87 = some [.nilFunc] := by kernel_rfl
theorem ag88 : aggO Tryz.prog 88 = some false := by kernel_rfl
theorem by88 : bytesO Tryz.prog 88 = some 8 := by kernel_rfl
theorem sz88 : szO Tryz.prog 88 = some 1 := by kernel_rfl
theorem zc88 : zc Tryz.prog 88 = some [.nilFunc] := by kernel_rfl
theorem ag89 : aggO Tryz.prog 89 = some false := by kernel_rfl
theorem by89 : bytesO Tryz.prog 89 = some 8 := by kernel_rfl
theorem sz89 : szO Tryz.prog 89 = some 1 := by kernel_rfl
theorem zc89 : zc Tryz.prog 89 = some [.nilFunc] := by kernel_rfl
theorem ag90 : aggO Tryz.prog 90 = some true := by kernel_rfl
theorem by90 : bytesO Tryz.prog 90 = some 2 := by kernel_rfl
theorem sz90 : szO Tryz.prog 90 = some 2 := by kernel_rfl
theorem zc90 : zc Tryz.prog 90 = some [.int .u8 0, .int .u8 0] := by kernel_rfl
theorem ag92 : aggO Tryz.prog 92 = some false := by kernel_rfl
theorem by92 : bytesO Tryz.prog 92 = some 8 := by kernel_rfl
theorem sz92 : szO Tryz.prog 92 = some 1 := by kernel_rfl
theorem zc92 : zc Tryz.prog 92 = some [.nilFunc] := by kernel_rfl
theorem ag93 : aggO Tryz.prog 93 = some false := by kernel_rfl
theorem by93 : bytesO Tryz.prog 93 = some 8 := by kernel_rfl
theorem sz93 : szO Tryz.prog 93 = some 1 := by kernel_rfl
theorem zc93 : zc Tryz.prog 93 = some [.nilFunc] := by kernel_rfl
theorem ag94 : aggO Tryz.prog 94 = some false := by kernel_rfl
theorem by94 : bytesO Tryz.prog 94 = some 8 := by kernel_rfl
theorem sz94 : szO Tryz.prog 94 = some 1 := by kernel_rfl
theorem zc94 : zc Tryz.prog 94 = some [.nilFunc] := by kernel_rfl
theorem ag95 : aggO Tryz.prog 95 = some false := by kernel_rfl
theorem by95 : bytesO Tryz.prog 95 = some 8 := by kernel_rfl
theorem sz95 : szO Tryz.prog 95 = some 1 := by kernel_rfl
theorem zc95 : zc Tryz.prog 95 = some [.nilFunc] := by kernel_rfl
theorem ag96 : aggO Tryz.prog 96 = some true := by kernel_rfl
theorem by96 : bytesO Tryz.prog 96 = some 96 := by kernel_rfl
theorem sz96 : szO Tryz.prog 96 = some 12 := by kernel_rfl
theorem zc96 : zc Tryz.prog 96 = some [.int .i64 0, .int .i64 0, .int .i64 0, .int .u64 0, .int .u64 0, .int .u64 0, .int .u64 0, .int .i64 0, .int .i64 0, .int .i64 0, .int .i64 0, .bool false] := by kernel_rfl
theorem ag97 : aggO Tryz.prog 97 = some true := by kernel_rfl
theorem by97 : bytesO Tryz.prog 97 = some 96 := by kernel_rfl
theorem sz97 : szO Tryz.prog 97 = some 12 := by kernel_rfl
theorem zc97 : zc Tryz.prog 97 = some [.int .i64 0, .int .i64 0, .int .i64 0, .int .u64 0, .int .u64 0, .int .u64 0, .int .u64 0, .int .i64 0, .int .i64 0, .int .i64 0, .int .i64 0, .bool false] := by kernel_rfl
theorem ag98 : aggO Tryz.prog 98 = some false := by kernel_rfl
theorem by98 : bytesO Tryz.prog 98 = some 8 := by kernel_rfl
theorem sz98 : szO Tryz.prog 98 = some 1 := by kernel_rfl
theorem zc98 : zc Tryz.prog 98 = some [.nilFunc] := by kernel_rfl
theorem ag99 : aggO Tryz.prog 99 = some false := by kernel_rfl
theorem by99 : bytesO Tryz.prog 99 = some 8 := by kernel_rfl
theorem sz99 : szO Tryz.prog 99 = some 1 := by kernel_rfl
theorem zc99 : zc Tryz.prog 99 = some [.nilFunc] := by kernel_rfl
theorem ag100 : aggO Tryz.prog 100 = some false := by kernel_rfl
theorem by100 : bytesO Tryz.prog 100 = some 24 := by kernel_rfl
theorem sz100 : szO Tryz.prog 100 = some 1 := by kernel_rfl
theorem zc100 : zc Tryz.prog 100 = some [.slice none 0 0] := by kernel_rfl
theorem ag101 : aggO Tryz.prog 101 = some false := by kernel_rfl
theorem by101 : bytesO Tryz.prog 101 = some 8 := by kernel_rfl
theorem sz101 : szO Tryz.prog 101 = some 1 := by kernel_rfl
theorem zc101 : zc Tryz.prog 101 = some [.nilFunc] := by kernel_rfl
theorem ag102 : aggO Tryz.prog 102 = some false := by kernel_rfl
theorem by102 : bytesO Tryz.prog 102 = some 8 := by kernel_rfl
theorem sz102 : szO Tryz.prog 102 = some 1 := by kernel_rfl
theorem zc102 : zc Tryz.prog 102 = some [.nilFunc] := by kernel_rfl
theorem ag103 : aggO Tryz.prog 103 = some false := by kernel_rfl
theorem by103 : bytesO Tryz.prog 103 = some 8 := by kernel_rfl
theorem sz103 : szO Tryz.prog 103 = some 1 := by kernel_rfl
theorem zc103 : zc Tryz.prog 103 = some [.nilFunc] := by kernel_rfl
theorem ag104 : aggO Tryz.prog 104 = some false := by kernel_rfl
theorem by104 : bytesO Tryz.prog 104 = some 8 := by kernel_rfl
theorem sz104 : szO Tryz.prog 104 = some 1 := by kernel_rfl
theorem zc104 : zc Tryz.prog 104 = some [.nilFunc] := by kernel_rfl
theorem ag105 : aggO Tryz.prog 105 = some false := by kernel_rfl
theorem by105 : bytesO Tryz.prog 105 = some 8 := by kernel_rfl
theorem sz105 : szO Tryz.prog 105 = some 1 := by kernel_rfl
theorem zc105 : zc Tryz.prog 105 = some [.nilFunc] := by kernel_rfl
theorem ag106 : aggO Tryz.prog 106 = some true := by kernel_rfl
theorem by106 : bytesO Tryz.prog 106 = some 64 := by kernel_rfl
theorem sz106 : szO Tryz.prog 106 = some 9 := by kernel_rfl
theorem zc106 : zc Tryz.prog 106 = some [.int .u64 0, .int .u64 0, .int .u64 0, .int .u64 0, .bool false, .bool false, .string ⟨#[]⟩, .bool false, .bool false] := by kernel_rfl
theorem ag107 : aggO Tryz.prog 107 = some true := by kernel_rfl
theorem by107 : bytesO Tryz.prog 107 = some 64 := by kernel_rfl
theorem sz107 : szO Tryz.prog 107 = some 9 := by kernel_rfl
theorem zc107 : zc Tryz.prog 107 = some [.int .u64 0, .int .u64 0, .int .u64 0, .int .u64 0, .bool false, .bool false, .string ⟨#[]⟩, .bool false, .bool false] := by kernel_rfl
theorem ag108 : aggO Tryz.prog 108 = some false := by kernel_rfl
theorem by108 : bytesO Tryz.prog 108 = some 24 := by kernel_rfl
theorem sz108 : szO Tryz.prog 108 = some 1 := by kernel_rfl
theorem zc108 : zc Tryz.prog 108 = some [.slice none 0 0] := by kernel_rfl
theorem ag109 : aggO Tryz.prog 109 = some false := by kernel_rfl
theorem by109 : bytesO Tryz.prog 109 = some 8 := by kernel_rfl
theorem sz109 : szO Tryz.prog 109 = some 1 := by kernel_rfl
theorem zc109 : zc Tryz.prog 109 = some [.nilFunc] := by kernel_rfl
theorem ag111 : aggO Tryz.prog 111 = some false := by kernel_rfl
theorem by111 : bytesO Tryz.prog 111 = some 8 := by kernel_rfl
theorem sz111 : szO Tryz.prog 111 = some 1 := by kernel_rfl
theorem zc111 : zc Tryz.prog 111 = some [.nilFunc] := by kernel_rfl
theorem ag112 : aggO Tryz.prog 112 = some false := by kernel_rfl
theorem by112 : bytesO Tryz.prog 112 = some 8 := by kernel_rfl
theorem sz112 : szO Tryz.prog 112 = some 1 := by kernel_rfl
theorem zc112 : zc Tryz.prog 112 = some [.nilFunc] := by kernel_rfl
theorem ag113 : aggO Tryz.prog 113 = some false := by kernel_rfl
theorem by113 : bytesO Tryz.prog 113 = some 8 := by kernel_rfl
theorem sz113 : szO Tryz.prog 113 = some 1 := by kernel_rfl
theorem zc113 : zc Tryz.prog 113 = some [.nilFunc] := by kernel_rfl
theorem ag114 : aggO Tryz.prog 114 = some false := by kernel_rfl
theorem by114 : bytesO Tryz.prog 114 = some 8 := by kernel_rfl
theorem sz114 : szO Tryz.prog 114 = some 1 := by kernel_rfl
theorem zc114 : zc Tryz.prog 114 = some [.nilFunc] := by kernel_rfl
theorem ag116 : aggO Tryz.prog 116 = some false := by kernel_rfl
theorem by116 : bytesO Tryz.prog 116 = some 8 := by kernel_rfl
theorem sz116 : szO Tryz.prog 116 = some 1 := by kernel_rfl
theorem zc116 : zc Tryz.prog 116 = some [.nilFunc] := by kernel_rfl
theorem ag117 : aggO Tryz.prog 117 = some false := by kernel_rfl
theorem by117 : bytesO Tryz.prog 117 = some 8 := by kernel_rfl
theorem sz117 : szO Tryz.prog 117 = some 1 := by kernel_rfl
theorem zc117 : zc Tryz.prog 117 = some [.nilFunc] := by kernel_rfl
theorem ag119 : aggO Tryz.prog 119 = some false := by kernel_rfl
theorem by119 : bytesO Tryz.prog 119 = some 8 := by kernel_rfl
theorem sz119 : szO Tryz.prog 119 = some 1 := by kernel_rfl
theorem zc119 : zc Tryz.prog 119 = some [.nilFunc] := by kernel_rfl
theorem ag120 : aggO Tryz.prog 120 = some true := by kernel_rfl
theorem by120 : bytesO Tryz.prog 120 = some 24 := by kernel_rfl
theorem sz120 : szO Tryz.prog 120 = some 1 := by kernel_rfl
theorem zc120 : zc Tryz.prog 120 = some [.slice none 0 0] := by kernel_rfl
theorem ag121 : aggO Tryz.prog 121 = some true := by kernel_rfl
theorem by121 : bytesO Tryz.prog 121 = some 24 := by kernel_rfl
theorem sz121 : szO Tryz.prog 121 = some 1 := by kernel_rfl
theorem zc121 : zc Tryz.prog 121 = some [.slice none 0 0] := by kernel_rfl
theorem ag122 : aggO Tryz.prog 122 = some false := by kernel_rfl
theorem by122 : bytesO Tryz.prog 122 = some 8 := by kernel_rfl
theorem sz122 : szO Tryz.prog 122 = some 1 := by kernel_rfl
theorem zc122 : zc Tryz.prog 122 = some [.nilFunc] := by kernel_rfl
theorem ag124 : aggO Tryz.prog 124 = some false := by kernel_rfl
theorem by124 : bytesO Tryz.prog 124 = some 8 := by kernel_rfl
theorem sz124 : szO Tryz.prog 124 = some 1 := by kernel_rfl
theorem zc124 : zc Tryz.prog 124 = some [.nilFunc] := by kernel_rfl
theorem ag125 : aggO Tryz.prog 125 = some false := by kernel_rfl
theorem by125 : bytesO Tryz.prog 125 = some 8 := by kernel_rfl
theorem sz125 : szO Tryz.prog 125 = some 1 := by kernel_rfl
theorem zc125 : zc Tryz.prog 125 = some [.nilFunc] := by kernel_rfl
theorem ag126 : aggO Tryz.prog 126 = some false := by kernel_rfl
theorem by126 : bytesO Tryz.prog 126 = some 8 := by kernel_rfl
theorem sz126 : szO Tryz.prog 126 = some 1 := by kernel_rfl
theorem zc126 : zc Tryz.prog 126 = some [.nilFunc] := by kernel_rfl
theorem ag127 : aggO Tryz.prog 127 = some false := by kernel_rfl
theorem by127 : bytesO Tryz.prog 127 = some 8 := by kernel_rfl
theorem sz127 : szO Tryz.prog 127 = some 1 := by kernel_rfl
theorem zc127 : zc Tryz.prog 127 = some [.nilFunc] := by kernel_rfl
theorem ag128 : aggO Tryz.prog 128 = some false := by kernel_rfl
theorem by128 : bytesO Tryz.prog 128 = some 24 := by kernel_rfl
theorem sz128 : szO Tryz.prog 128 = some 1 := by kernel_rfl
theorem zc128 : zc Tryz.prog 128 = some [.slice none 0 0] := by kernel_rfl
theorem ag130 : aggO Tryz.prog 130 = some false := by kernel_rfl
theorem by130 : bytesO Tryz.prog 130 = some 8 := by kernel_rfl
theorem sz130 : szO Tryz.prog 130 = some 1 := by kernel_rfl
theorem zc130 : zc Tryz.prog 130 = some [.nilFunc] := by kernel_rfl
theorem ag132 : aggO Tryz.prog 132 = some false := by kernel_rfl
theorem by132 : bytesO Tryz.prog 132 = some 8 := by kernel_rfl
theorem sz132 : szO Tryz.prog 132 = some 1 := by kernel_rfl
theorem zc132 : zc Tryz.prog 132 = some [.nilFunc] := by kernel_rfl
theorem ag133 : aggO Tryz.prog 133 = some false := by kernel_rfl
theorem by133 : bytesO Tryz.prog 133 = some 8 := by kernel_rfl
theorem sz133 : szO Tryz.prog 133 = some 1 := by kernel_rfl
theorem zc133 : zc Tryz.prog 133 = some [.nilFunc] := by kernel_rfl
theorem ag134 : aggO Tryz.prog 134 = some false := by kernel_rfl
theorem by134 : bytesO Tryz.prog 134 = some 8 := by kernel_rfl
theorem sz134 : szO Tryz.prog 134 = some 1 := by kernel_rfl
theorem zc134 : zc Tryz.prog 134 = some [.nilFunc] := by kernel_rfl
theorem ag135 : aggO Tryz.prog 135 = some false := by kernel_rfl
theorem by135 : bytesO Tryz.prog 135 = some 8 := by kernel_rfl
theorem sz135 : szO Tryz.prog 135 = some 1 := by kernel_rfl
theorem zc135 : zc Tryz.prog 135 = some [.nilFunc] := by kernel_rfl
theorem ag137 : aggO Tryz.prog 137 = some false := by kernel_rfl
theorem by137 : bytesO Tryz.prog 137 = some 8 := by kernel_rfl
theorem sz137 : szO Tryz.prog 137 = some 1 := by kernel_rfl
theorem zc137 : zc Tryz.prog 137 = some [.nilFunc] := by kernel_rfl
theorem ag138 : aggO Tryz.prog 138 = some false := by kernel_rfl
theorem by138 : bytesO Tryz.prog 138 = some 8 := by kernel_rfl
theorem sz138 : szO Tryz.prog 138 = some 1 := by kernel_rfl
theorem zc138 : zc Tryz.prog 138 = some [.nilFunc] := by kernel_rfl
theorem ag139 : aggO Tryz.prog 139 = some false := by kernel_rfl
theorem by139 : bytesO Tryz.prog 139 = some 8 := by kernel_rfl
theorem sz139 : szO Tryz.prog 139 = some 1 := by kernel_rfl
theorem zc139 : zc Tryz.prog 139 = some [.nilFunc] := by kernel_rfl
theorem ag140 : aggO Tryz.prog 140 = some false := by kernel_rfl
theorem by140 : bytesO Tryz.prog 140 = some 8 := by kernel_rfl
theorem sz140 : szO Tryz.prog 140 = some 1 := by kernel_rfl
theorem zc140 : zc Tryz.prog 140 = some [.nilFunc] := by kernel_rfl
theorem ag141 : aggO Tryz.prog 141 = some false := by kernel_rfl
theorem by141 : bytesO Tryz.prog 141 = some 8 := by kernel_rfl
theorem sz141 : szO Tryz.prog 141 = some 1 := by kernel_rfl
theorem zc141 : zc Tryz.prog 141 = some [.nilFunc] := by kernel_rfl
theorem ag142 : aggO Tryz.prog 142 = some false := by kernel_rfl
theorem by142 : bytesO Tryz.prog 142 = some 8 := by kernel_rfl
theorem sz142 : szO Tryz.prog 142 = some 1 := by kernel_rfl
theorem zc142 : zc Tryz.prog 142 = some [.nilFunc] := by kernel_rfl
theorem ag143 : aggO Tryz.prog 143 = some false := by kernel_rfl
theorem by143 : bytesO Tryz.prog 143 = some 8 := by kernel_rfl
theorem sz143 : szO Tryz.prog 143 = some 1 := by kernel_rfl
theorem zc143 : zc Tryz.prog 143 = some [.nilFunc] := by kernel_rfl
theorem ag144 : aggO Tryz.prog 144 = some false := by kernel_rfl
theorem by144 : bytesO Tryz.prog 144 = some 8 := by kernel_rfl
theorem sz144 : szO Tryz.prog 144 = some 1 := by kernel_rfl
theorem zc144 : zc Tryz.prog 144 = some [.nilFunc] := by kernel_rfl
theorem ag146 : aggO Tryz.prog 146 = some false := by kernel_rfl
theorem by146 : bytesO Tryz.prog 146 = some 8 := by kernel_rfl
theorem sz146 : szO Tryz.prog 146 = some 1 := by kernel_rfl
theorem zc146 : zc Tryz.prog 146 = some [.nilFunc] := by kernel_rfl
theorem ag147 : aggO Tryz.prog 147 = some false := by kernel_rfl
theorem by147 : bytesO Tryz.prog 147 = some 8 := by kernel_rfl
theorem sz147 : szO Tryz.prog 147 = some 1 := by kernel_rfl
theorem zc147 : zc Tryz.prog 147 = some [.nilFunc] := by kernel_rfl
theorem ag148 : aggO Tryz.prog 148 = some false := by kernel_rfl
theorem by148 : bytesO Tryz.prog 148 = some 8 := by kernel_rfl
theorem sz148 : szO Tryz.prog 148 = some 1 := by kernel_rfl
theorem zc148 : zc Tryz.prog 148 = some [.nilFunc] := by kernel_rfl
theorem ag149 : aggO Tryz.prog 149 = some false := by kernel_rfl
theorem by149 : bytesO Tryz.prog 149 = some 8 := by kernel_rfl
theorem sz149 : szO Tryz.prog 149 = some 1 := by kernel_rfl
theorem zc149 : zc Tryz.prog 149 = some [.nilFunc] := by kernel_rfl
theorem ag150 : aggO Tryz.prog 150 = some false := by kernel_rfl
theorem by150 : bytesO Tryz.prog 150 = some 8 := by kernel_rfl
theorem sz150 : szO Tryz.prog 150 = some 1 := by kernel_rfl
theorem zc150 : zc Tryz.prog 150 = some [.nilFunc] := by kernel_rfl
theorem ag151 : aggO Tryz.prog 151 = some false := by kernel_rfl
theorem by151 : bytesO Tryz.prog 151 = some 8 := by kernel_rfl
theorem sz151 : szO Tryz.prog 151 = some 1 := by kernel_rfl
theorem zc151 : zc Tryz.prog 151 = some [.nilFunc] := by kernel_rfl
theorem ag152 : aggO Tryz.prog 152 = some false := by kernel_rfl
theorem by152 : bytesO Tryz.prog 152 = some 8 := by kernel_rfl
theorem sz152 : szO Tryz.prog 152 = some 1 := by kernel_rfl
theorem zc152 : zc Tryz.prog 152 = some [.nilFunc] := by kernel_rfl
theorem ag153 : aggO Tryz.prog 153 = some true := by kernel_rfl
theorem by153 : bytesO Tryz.prog 153 = some 24 := by kernel_rfl
theorem sz153 : szO Tryz.prog 153 = some 2 := by kernel_rfl
theorem zc153 : zc Tryz.prog 153 = some [.string ⟨#[]⟩, .nilFunc] := by kernel_rfl
theorem ag154 : aggO Tryz.prog 154 = some true := by kernel_rfl
theorem by154 : bytesO Tryz.prog 154 = some 24 := by kernel_rfl
theorem sz154 : szO Tryz.prog 154 = some 2 := by kernel_rfl
theorem zc154 : zc Tryz.prog 154 = some [.string ⟨#[]⟩, .nilFunc] := by kernel_rfl
theorem ag155 : aggO Tryz.prog 155 = some false := by kernel_rfl
theorem ag156 : aggO Tryz.prog 156 = some false := by kernel_rfl
theorem by156 : bytesO Tryz.prog 156 = some 8 := by kernel_rfl
theorem sz156 : szO Tryz.prog 156 = some 1 := by kernel_rfl
theorem zc156 : zc Tryz.prog 156 = some [.nilFunc] := by kernel_rfl
theorem ag157 : aggO Tryz.prog 157 = some false := by kernel_rfl
theorem by157 : bytesO Tryz.prog 157 = some 8 := by kernel_rfl
theorem sz157 : szO Tryz.prog 157 = some 1 := by kernel_rfl
theorem zc157 : zc Tryz.prog 157 = some [.nilFunc] := by kernel_rfl
theorem ag158 : aggO Tryz.prog 158 = some false := by kernel_rfl
theorem by158 : bytesO Tryz.prog 158 = some 8 := by kernel_rfl
theorem sz158 : szO Tryz.prog 158 = some 1 := by kernel_rfl
theorem zc158 : zc Tryz.prog 158 = some [.nilFunc] := by kernel_rfl
theorem ag159 : aggO Tryz.prog 159 = some false := by kernel_rfl
theorem by159 : bytesO Tryz.prog 159 = some 8 := by kernel_rfl
theorem sz159 : szO Tryz.prog 159 = some 1 := by kernel_rfl
theorem zc159 : zc Tryz.prog 159 = some [.nilFunc] := by kernel_rfl
theorem ag160 : aggO Tryz.prog 160 = some true := by kernel_rfl
theorem by160 : bytesO Tryz.prog 160 = some 0 := by kernel_rfl
theorem sz160 : szO Tryz.prog 160 = some 0 := by kernel_rfl
theorem zc160 : zc Tryz.prog 160 = some [] := by kernel_rfl
theorem ag161 : aggO Tryz.prog 161 = some true := by kernel_rfl
theorem by161 : bytesO Tryz.prog 161 = some 0 := by kernel_rfl
theorem sz161 : szO Tryz.prog 161 = some 0 := by kernel_rfl
theorem zc161 : zc Tryz.prog 161 = some [] := by kernel_rfl
theorem ag163 : aggO Tryz.prog 163 = some false := by kernel_rfl
theorem by163 : bytesO Tryz.prog 163 = some 8 := by kernel_rfl
theorem sz163 : szO Tryz.prog 163 = some 1 := by kernel_rfl
theorem zc163 : zc Tryz.prog 163 = some [.pointer none] := by kernel_rfl
theorem ag164 : aggO Tryz.prog 164 = some true := by kernel_rfl
theorem by164 : bytesO Tryz.prog 164 = some 56 := by kernel_rfl
theorem sz164 : szO Tryz.prog 164 = some 4 := by kernel_rfl
theorem zc164 : zc Tryz.prog 164 = some [.slice none 0 0, .int .i64 0, .int .i64 0, .string ⟨#[]⟩] := by kernel_rfl
theorem ag165 : aggO Tryz.prog 165 = some true := by kernel_rfl
theorem by165 : bytesO Tryz.prog 165 = some 56 := by kernel_rfl
theorem sz165 : szO Tryz.prog 165 = some 4 := by kernel_rfl
theorem zc165 : zc Tryz.prog 165 = some [.slice none 0 0, .int .i64 0, .int .i64 0, .string ⟨#[]⟩] := by kernel_rfl
theorem ag166 : aggO Tryz.prog 166 = some false := by kernel_rfl
theorem by166 : bytesO Tryz.prog 166 = some 8 := by kernel_rfl
theorem sz166 : szO Tryz.prog 166 = some 1 := by kernel_rfl
theorem zc166 : zc Tryz.prog 166 = some [.nilFunc] := by kernel_rfl
theorem ag167 : aggO Tryz.prog 167 = some false := by kernel_rfl
theorem by167 : bytesO Tryz.prog 167 = some 8 := by kernel_rfl
theorem sz167 : szO Tryz.prog 167 = some 1 := by kernel_rfl
theorem zc167 : zc Tryz.prog 167 = some [.int .u64 0] := by kernel_rfl
theorem ag168 : aggO Tryz.prog 168 = some false := by kernel_rfl
theorem by168 : bytesO Tryz.prog 168 = some 8 := by kernel_rfl
theorem sz168 : szO Tryz.prog 168 = some 1 := by kernel_rfl
theorem zc168 : zc Tryz.prog 168 = some [.nilFunc] := by kernel_rfl
theorem ag169 : aggO Tryz.prog 169 = some true := by kernel_rfl
theorem by169 : bytesO Tryz.prog 169 = some 40 := by kernel_rfl
theorem sz169 : szO Tryz.prog 169 = some 5 := by kernel_rfl
theorem zc169 : zc Tryz.prog 169 = some [.int .i64 0, .int .i64 0, .int .i64 0, .int .i64 0, .int .i64 0] := by kernel_rfl
theorem ag170 : aggO Tryz.prog 170 = some true := by kernel_rfl
theorem by170 : bytesO Tryz.prog 170 = some 96 := by kernel_rfl
theorem sz170 : szO Tryz.prog 170 = some 6 := by kernel_rfl
theorem zc170 : zc Tryz.prog 170 = some [.string ⟨#[]⟩, .string ⟨#[]⟩, .string ⟨#[]⟩, .string ⟨#[]⟩, .string ⟨#[]⟩, .string ⟨#[]⟩] := by kernel_rfl
theorem ag171 : aggO Tryz.prog 171 = some false := by kernel_rfl
theorem by171 : bytesO Tryz.prog 171 = some 8 := by kernel_rfl
theorem sz171 : szO Tryz.prog 171 = some 1 := by kernel_rfl
theorem zc171 : zc Tryz.prog 171 = some [.nilFunc] := by kernel_rfl
theorem ag173 : aggO Tryz.prog 173 = some false := by kernel_rfl
theorem by173 : bytesO Tryz.prog 173 = some 8 := by kernel_rfl
theorem sz173 : szO Tryz.prog 173 = some 1 := by kernel_rfl
theorem zc173 : zc Tryz.prog 173 = some [.nilFunc] := by kernel_rfl
theorem ag175 : aggO Tryz.prog 175 = some false := by kernel_rfl
theorem by175 : bytesO Tryz.prog 175 = some 8 := by kernel_rfl
theorem sz175 : szO Tryz.prog 175 = some 1 := by kernel_rfl
theorem zc175 : zc Tryz.prog 175 = some [.nilFunc] := by kernel_rfl
theorem ag176 : aggO Tryz.prog 176 = some false := by kernel_rfl
theorem by176 : bytesO Tryz.prog 176 = some 8 := by kernel_rfl
theorem sz176 : szO Tryz.prog 176 = some 1 := by kernel_rfl
theorem zc176 : zc Tryz.prog 176 = some [.nilFunc] := by kernel_rfl
theorem ag177 : aggO Tryz.prog 177 = some false := by kernel_rfl
theorem by177 : bytesO Tryz.prog 177 = some 8 := by kernel_rfl
theorem sz177 : szO Tryz.prog 177 = some 1 := by kernel_rfl
theorem zc177 : zc Tryz.prog 177 = some [.pointer none] := by kernel_rfl
theorem ag178 : aggO Tryz.prog 178 = some false := by kernel_rfl
theorem by178 : bytesO Tryz.prog 178 = some 8 := by kernel_rfl
theorem sz178 : szO Tryz.prog 178 = some 1 := by kernel_rfl
theorem zc178 : zc Tryz.prog 178 = some [.nilFunc] := by kernel_rfl
theorem ag179 : aggO Tryz.prog 179 = some false := by kernel_rfl
theorem by179 : bytesO Tryz.prog 179 = some 8 := by kernel_rfl
theorem sz179 : szO Tryz.prog 179 = some 1 := by kernel_rfl
theorem zc179 : zc Tryz.prog 179 = some [.nilFunc] := by kernel_rfl
theorem ag180 : aggO Tryz.prog 180 = some false := by kernel_rfl
theorem by180 : bytesO Tryz.prog 180 = some 8 := by kernel_rfl
theorem sz180 : szO Tryz.prog 180 = some 1 := by kernel_rfl
theorem zc180 : zc Tryz.prog 180 = some [.nilFunc] := by kernel_rfl
theorem ag181 : aggO Tryz.prog 181 = some false := by kernel_rfl
theorem by181 : bytesO Tryz.prog 181 = some 8 := by kernel_rfl
theorem sz181 : szO Tryz.prog 181 = some 1 := by kernel_rfl
theorem zc181 : zc Tryz.prog 181 = some [.nilFunc] := by kernel_rfl
theorem ag183 : aggO Tryz.prog 183 = some false := by kernel_rfl
theorem by183 : bytesO Tryz.prog 183 = some 8 := by kernel_rfl
theorem sz183 : szO Tryz.prog 183 = some 1 := by kernel_rfl
theorem zc183 : zc Tryz.prog 183 = some [.nilFunc] := by kernel_rfl
theorem ag184 : aggO Tryz.prog 184 = some false := by kernel_rfl
theorem by184 : bytesO Tryz.prog 184 = some 8 := by kernel_rfl
theorem sz184 : szO Tryz.prog 184 = some 1 := by kernel_rfl
theorem zc184 : zc Tryz.prog 184 = some [.nilFunc] := by kernel_rfl
theorem ag185 : aggO Tryz.prog 185 = some false := by kernel_rfl
theorem by185 : bytesO Tryz.prog 185 = some 8 := by kernel_rfl
theorem sz185 : szO Tryz.prog 185 = some 1 := by kernel_rfl
theorem zc185 : zc Tryz.prog 185 = some [.nilFunc] := by kernel_rfl
theorem ag186 : aggO Tryz.prog 186 = some false := by kernel_rfl
theorem by186 : bytesO Tryz.prog 186 = some 8 := by kernel_rfl
theorem sz186 : szO Tryz.prog 186 = some 1 := by kernel_rfl
theorem zc186 : zc Tryz.prog 186 = some [.nilFunc] := by kernel_rfl
theorem ag187 : aggO Tryz.prog 187 = some false := by kernel_rfl
theorem by187 : bytesO Tryz.prog 187 = some 8 := by kernel_rfl
theorem sz187 : szO Tryz.prog 187 = some 1 := by kernel_rfl
theorem zc187 : zc Tryz.prog 187 = some [.nilFunc] := by kernel_rfl
theorem ag188 : aggO Tryz.prog 188 = some false := by kernel_rfl
theorem by188 : bytesO Tryz.prog 188 = some 8 := by kernel_rfl
theorem sz188 : szO Tryz.prog 188 = some 1 := by kernel_rfl
theorem zc188 : zc Tryz.prog 188 = some [.nilFunc] := by kernel_rfl
theorem ag189 : aggO Tryz.prog 189 = some false := by kernel_rfl
theorem by189 : bytesO Tryz.prog 189 = some 8 := by kernel_rfl
theorem sz189 : szO Tryz.prog 189 = some 1 := by kernel_rfl
theorem zc189 : zc Tryz.prog 189 = some [.nilFunc] := by kernel_rfl
theorem ag190 : aggO Tryz.prog 190 = some false := by kernel_rfl
theorem by190 : bytesO Tryz.prog 190 = some 8 := by kernel_rfl
theorem sz190 : szO Tryz.prog 190 = some 1 := by kernel_rfl
theorem zc190 : zc Tryz.prog 190 = some [.nilFunc] := by kernel_rfl
theorem ag191 : aggO Tryz.prog 191 = some false := by kernel_rfl
theorem by191 : bytesO Tryz.prog 191 = some 8 := by kernel_rfl
theorem sz191 : szO Tryz.prog 191 = some 1 := by kernel_rfl
theorem zc191 : zc Tryz.prog 191 = some [.nilFunc] := by kernel_rfl
theorem ag192 : aggO Tryz.prog 192 = some false := by kernel_rfl
theorem by192 : bytesO Tryz.prog 192 = some 8 := by kernel_rfl
theorem sz192 : szO Tryz.prog 192 = some 1 := by kernel_rfl
theorem zc192 : zc Tryz.prog 192 = some [.nilFunc] := by kernel_rfl
theorem ag193 : aggO Tryz.prog 193 = some false := by kernel_rfl
theorem by193 : bytesO Tryz.prog 193 = some 8 := by kernel_rfl
theorem sz193 : szO Tryz.prog 193 = some 1 := by kernel_rfl
theorem zc193 : zc Tryz.prog 193 = some [.nilFunc] := by kernel_rfl
theorem ag194 : aggO Tryz.prog 194 = some true := by kernel_rfl
theorem by194 : bytesO Tryz.prog 194 = some 48 := by kernel_rfl
theorem sz194 : szO Tryz.prog 194 = some 3 := by kernel_rfl
theorem zc194 : zc Tryz.prog 194 = some [.string ⟨#[]⟩, .string ⟨#[]⟩, .string ⟨#[]⟩] := by kernel_rfl
theorem ag195 : aggO Tryz.prog 195 = some false := by kernel_rfl
theorem by195 : bytesO Tryz.prog 195 = some 8 := by kernel_rfl
theorem sz195 : szO Tryz.prog 195 = some 1 := by kernel_rfl
theorem zc195 : zc Tryz.prog 195 = some [.nilFunc] := by kernel_rfl
theorem ag196 : aggO Tryz.prog 196 = some false := by kernel_rfl
theorem by196 : bytesO Tryz.prog 196 = some 8 := by kernel_rfl
theorem sz196 : szO Tryz.prog 196 = some 1 := by kernel_rfl
theorem zc196 : zc Tryz.prog 196 = some [.int .i64 0] := by kernel_rfl
theorem ag198 : aggO Tryz.prog 198 = some false := by kernel_rfl
theorem by198 : bytesO Tryz.prog 198 = some 8 := by kernel_rfl
theorem sz198 : szO Tryz.prog 198 = some 1 := by kernel_rfl
theorem zc198 : zc Tryz.prog 198 = some [.nilFunc] := by kernel_rfl
theorem ag199 : aggO Tryz.prog 199 = some false := by kernel_rfl
theorem by199 : bytesO Tryz.prog 199 = some 8 := by kernel_rfl
theorem sz199 : szO Tryz.prog 199 = some 1 := by kernel_rfl
theorem zc199 : zc Tryz.prog 199 = some [.nilFunc] := by kernel_rfl
theorem ag200 : aggO Tryz.prog 200 = some false := by kernel_rfl
theorem by200 : bytesO Tryz.prog 200 = some 8 := by kernel_rfl
theorem sz200 : szO Tryz.prog 200 = some 1 := by kernel_rfl
theorem zc200 : zc Tryz.prog 200 = some [.nilFunc] := by kernel_rfl
theorem ag201 : aggO Tryz.prog 201 = some false := by kernel_rfl
theorem by201 : bytesO Tryz.prog 201 = some 8 := by kernel_rfl
theorem sz201 : szO Tryz.prog 201 = some 1 := by kernel_rfl
theorem zc201 : zc Tryz.prog 201 = some [.nilFunc] := by kernel_rfl
theorem ag202 : aggO Tryz.prog 202 = some false := by kernel_rfl
theorem by202 : bytesO Tryz.prog 202 = some 8 := by kernel_rfl
theorem sz202 : szO Tryz.prog 202 = some 1 := by kernel_rfl
theorem zc202 : zc Tryz.prog 202 = some [.nilFunc] := by kernel_rfl
theorem ag203 : aggO Tryz.prog 203 = some false := by kernel_rfl
theorem by203 : bytesO Tryz.prog 203 = some 4 := by kernel_rfl
theorem sz203 : szO Tryz.prog 203 = some 1 := by kernel_rfl
theorem zc203 : zc Tryz.prog 203 = some [.int .u32 0] := by kernel_rfl
theorem ag204 : aggO Tryz.prog 204 = some false := by kernel_rfl
theorem by204 : bytesO Tryz.prog 204 = some 8 := by kernel_rfl
theorem sz204 : szO Tryz.prog 204 = some 1 := by kernel_rfl
theorem zc204 : zc Tryz.prog 204 = some [.nilFunc] := by kernel_rfl
theorem ag205 : aggO Tryz.prog 205 = some false := by kernel_rfl
theorem by205 : bytesO Tryz.prog 205 = some 8 := by kernel_rfl
theorem sz205 : szO Tryz.prog 205 = some 1 := by kernel_rfl
theorem zc205 : zc Tryz.prog 205 = some [.nilFunc] := by kernel_rfl
theorem ag206 : aggO Tryz.prog 206 = some true := by kernel_rfl
theorem by206 : bytesO Tryz.prog 206 = some 64 := by kernel_rfl
theorem sz206 : szO Tryz.prog 206 = some 64 := by kernel_rfl
theorem zc206 : zc Tryz.prog 206 = some (List.replicate 64 (.int .u8 0)) := by kernel_rfl
theorem ag207 : aggO Tryz.prog 207 = some false := by kernel_rfl
theorem by207 : bytesO Tryz.prog 207 = some 8 := by kernel_rfl
theorem sz207 : szO Tryz.prog 207 = some 1 := by kernel_rfl
theorem zc207 : zc Tryz.prog 207 = some [.int .u64 0] := by kernel_rfl
theorem ag208 : aggO Tryz.prog 208 = some false := by kernel_rfl
theorem by208 : bytesO Tryz.prog 208 = some 8 := by kernel_rfl
theorem sz208 : szO Tryz.prog 208 = some 1 := by kernel_rfl
theorem zc208 : zc Tryz.prog 208 = some [.nilFunc] := by kernel_rfl
theorem ag209 : aggO Tryz.prog 209 = some false := by kernel_rfl
theorem by209 : bytesO Tryz.prog 209 = some 8 := by kernel_rfl
theorem sz209 : szO Tryz.prog 209 = some 1 := by kernel_rfl
theorem zc209 : zc Tryz.prog 209 = some [.nilFunc] := by kernel_rfl
theorem ag210 : aggO Tryz.prog 210 = some false := by kernel_rfl
theorem by210 : bytesO Tryz.prog 210 = some 8 := by kernel_rfl
theorem sz210 : szO Tryz.prog 210 = some 1 := by kernel_rfl
theorem zc210 : zc Tryz.prog 210 = some [.nilFunc] := by kernel_rfl
theorem ag211 : aggO Tryz.prog 211 = some false := by kernel_rfl
theorem by211 : bytesO Tryz.prog 211 = some 8 := by kernel_rfl
theorem sz211 : szO Tryz.prog 211 = some 1 := by kernel_rfl
theorem zc211 : zc Tryz.prog 211 = some [.pointer none] := by kernel_rfl
theorem ag212 : aggO Tryz.prog 212 = some false := by kernel_rfl
theorem by212 : bytesO Tryz.prog 212 = some 8 := by kernel_rfl
theorem sz212 : szO Tryz.prog 212 = some 1 := by kernel_rfl
theorem zc212 : zc Tryz.prog 212 = some [.nilFunc] := by kernel_rfl
theorem ag213 : aggO Tryz.prog 213 = some false := by kernel_rfl
theorem by213 : bytesO Tryz.prog 213 = some 8 := by kernel_rfl
theorem sz213 : szO Tryz.prog 213 = some 1 := by kernel_rfl
theorem zc213 : zc Tryz.prog 213 = some [.nilFunc] := by kernel_rfl
theorem ag214 : aggO Tryz.prog 214 = some false := by kernel_rfl
theorem by214 : bytesO Tryz.prog 214 = some 8 := by kernel_rfl
theorem sz214 : szO Tryz.prog 214 = some 1 := by kernel_rfl
theorem zc214 : zc Tryz.prog 214 = some [.pointer none] := by kernel_rfl
theorem ag215 : aggO Tryz.prog 215 = some false := by kernel_rfl
theorem by215 : bytesO Tryz.prog 215 = some 8 := by kernel_rfl
theorem sz215 : szO Tryz.prog 215 = some 1 := by kernel_rfl
theorem zc215 : zc Tryz.prog 215 = some [.nilFunc] := by kernel_rfl
theorem ag216 : aggO Tryz.prog 216 = some false := by kernel_rfl
theorem by216 : bytesO Tryz.prog 216 = some 8 := by kernel_rfl
theorem sz216 : szO Tryz.prog 216 = some 1 := by kernel_rfl
theorem zc216 : zc Tryz.prog 216 = some [.nilFunc] := by kernel_rfl
theorem ag217 : aggO Tryz.prog 217 = some false := by kernel_rfl
theorem by217 : bytesO Tryz.prog 217 = some 8 := by kernel_rfl
theorem sz217 : szO Tryz.prog 217 = some 1 := by kernel_rfl
theorem zc217 : zc Tryz.prog 217 = some [.nilFunc] := by kernel_rfl
theorem ag218 : aggO Tryz.prog 218 = some false := by kernel_rfl
theorem by218 : bytesO Tryz.prog 218 = some 8 := by kernel_rfl
theorem sz218 : szO Tryz.prog 218 = some 1 := by kernel_rfl
theorem zc218 : zc Tryz.prog 218 = some [.nilFunc] := by kernel_rfl
theorem ag219 : aggO Tryz.prog 219 = some true := by kernel_rfl
theorem by219 : bytesO Tryz.prog 219 = some 24 := by kernel_rfl
theorem sz219 : szO Tryz.prog 219 = some 24 := by kernel_rfl
theorem zc219 : zc Tryz.prog 219 = some (List.replicate 24 (.int .u8 0)) := by kernel_rfl
theorem ag220 : aggO Tryz.prog 220 = some false := by kernel_rfl
theorem by220 : bytesO Tryz.prog 220 = some 8 := by kernel_rfl
theorem sz220 : szO Tryz.prog 220 = some 1 := by kernel_rfl
theorem zc220 : zc Tryz.prog 220 = some [.nilFunc] := by kernel_rfl
theorem ag222 : aggO Tryz.prog 222 = some false := by kernel_rfl
theorem by222 : bytesO Tryz.prog 222 = some 8 := by kernel_rfl
theorem sz222 : szO Tryz.prog 222 = some 1 := by kernel_rfl
theorem zc222 : zc Tryz.prog 222 = some [.nilFunc] := by kernel_rfl
theorem ag223 : aggO Tryz.prog 223 = some false := by kernel_rfl
theorem by223 : bytesO Tryz.prog 223 = some 8 := by kernel_rfl
theorem sz223 : szO Tryz.prog 223 = some 1 := by kernel_rfl
theorem zc223 : zc Tryz.prog 223 = some [.nilFunc] := by kernel_rfl
theorem ag224 : aggO Tryz.prog 224 = some true := by kernel_rfl
theorem by224 : bytesO Tryz.prog 224 = some 160 := by kernel_rfl
theorem sz224 : szO Tryz.prog 224 = some 20 := by kernel_rfl
theorem zc224 : zc Tryz.prog 224 = some (List.replicate 20 (.int .u64 0)) := by kernel_rfl
theorem ag225 : aggO Tryz.prog 225 = some true := by kernel_rfl
theorem by225 : bytesO Tryz.prog 225 = some 65 := by kernel_rfl
theorem sz225 : szO Tryz.prog 225 = some 65 := by kernel_rfl
theorem zc225 : zc Tryz.prog 225 = some (List.replicate 65 (.int .u8 0)) := by kernel_rfl
theorem ag226 : aggO Tryz.prog 226 = some false := by kernel_rfl
theorem by226 : bytesO Tryz.prog 226 = some 8 := by kernel_rfl
theorem sz226 : szO Tryz.prog 226 = some 1 := by kernel_rfl
theorem zc226 : zc Tryz.prog 226 = some [.nilFunc] := by kernel_rfl
theorem ag227 : aggO Tryz.prog 227 = some true := by kernel_rfl
theorem by227 : bytesO Tryz.prog 227 = some 32 := by kernel_rfl
theorem sz227 : szO Tryz.prog 227 = some 32 := by kernel_rfl
theorem zc227 : zc Tryz.prog 227 = some (List.replicate 32 (.int .u8 0)) := by kernel_rfl
theorem ag229 : aggO Tryz.prog 229 = some false := by kernel_rfl
theorem by229 : bytesO Tryz.prog 229 = some 8 := by kernel_rfl
theorem sz229 : szO Tryz.prog 229 = some 1 := by kernel_rfl
theorem zc229 : zc Tryz.prog 229 = some [.nilFunc] := by kernel_rfl
theorem ag230 : aggO Tryz.prog 230 = some false := by kernel_rfl
theorem by230 : bytesO Tryz.prog 230 = some 8 := by kernel_rfl
theorem sz230 : szO Tryz.prog 230 = some 1 := by kernel_rfl
theorem zc230 : zc Tryz.prog 230 = some [.nilFunc] := by kernel_rfl
theorem ag231 : aggO Tryz.prog 231 = some true := by kernel_rfl
theorem by231 : bytesO Tryz.prog 231 = some 40 := by kernel_rfl
theorem sz231 : szO Tryz.prog 231 = some 4 := by kernel_rfl
theorem zc231 : zc Tryz.prog 231 = some [.pointer none, .pointer none, .pointer none, .string ⟨#[]⟩] := by kernel_rfl
theorem ag232 : aggO Tryz.prog 232 = some true := by kernel_rfl
theorem by232 : bytesO Tryz.prog 232 = some 40 := by kernel_rfl
theorem sz232 : szO Tryz.prog 232 = some 4 := by kernel_rfl
theorem zc232 : zc Tryz.prog 232 = some [.pointer none, .pointer none, .pointer none, .string ⟨#[]⟩] := by kernel_rfl
theorem ag233 : aggO Tryz.prog 233 = some true := by kernel_rfl
theorem by233 : bytesO Tryz.prog 233 = some 0 := by kernel_rfl
theorem sz233 : szO Tryz.prog 233 = some 0 := by kernel_rfl
theorem zc233 : zc Tryz.prog 233 = some [] := by kernel_rfl
theorem ag234 : aggO Tryz.prog 234 = some true := by kernel_rfl
theorem by234 : bytesO Tryz.prog 234 = some 0 := by kernel_rfl
theorem sz234 : szO Tryz.prog 234 = some 0 := by kernel_rfl
theorem zc234 : zc Tryz.prog 234 = some [] := by kernel_rfl
theorem ag235 : aggO Tryz.prog 235 = some true := by kernel_rfl
theorem by235 : bytesO Tryz.prog 235 = some 0 := by kernel_rfl
theorem sz235 : szO Tryz.prog 235 = some 0 := by kernel_rfl
theorem zc235 : zc Tryz.prog 235 = some [] := by kernel_rfl
theorem ag236 : aggO Tryz.prog 236 = some false := by kernel_rfl
theorem by236 : bytesO Tryz.prog 236 = some 1 := by kernel_rfl
theorem sz236 : szO Tryz.prog 236 = some 1 := by kernel_rfl
theorem zc236 : zc Tryz.prog 236 = some [.int .u8 0] := by kernel_rfl
theorem ag237 : aggO Tryz.prog 237 = some false := by kernel_rfl
theorem by237 : bytesO Tryz.prog 237 = some 1 := by kernel_rfl
theorem sz237 : szO Tryz.prog 237 = some 1 := by kernel_rfl
theorem zc237 : zc Tryz.prog 237 = some [.int .u8 0] := by kernel_rfl
theorem ag238 : aggO Tryz.prog 238 = some false := by kernel_rfl
theorem by238 : bytesO Tryz.prog 238 = some 8 := by kernel_rfl
theorem sz238 : szO Tryz.prog 238 = some 1 := by kernel_rfl
theorem zc238 : zc Tryz.prog 238 = some [.nilFunc] := by kernel_rfl
theorem ag239 : aggO Tryz.prog 239 = some false := by kernel_rfl
theorem by239 : bytesO Tryz.prog 239 = some 8 := by kernel_rfl
theorem sz239 : szO Tryz.prog 239 = some 1 := by kernel_rfl
theorem zc239 : zc Tryz.prog 239 = some [.pointer none] := by kernel_rfl
theorem ag240 : aggO Tryz.prog 240 = some false := by kernel_rfl
theorem by240 : bytesO Tryz.prog 240 = some 4 := by kernel_rfl
theorem sz240 : szO Tryz.prog 240 = some 1 := by kernel_rfl
theorem zc240 : zc Tryz.prog 240 = some [.int .i32 0] := by kernel_rfl
theorem ag241 : aggO Tryz.prog 241 = some false := by kernel_rfl
theorem by241 : bytesO Tryz.prog 241 = some 4 := by kernel_rfl
theorem sz241 : szO Tryz.prog 241 = some 1 := by kernel_rfl
theorem zc241 : zc Tryz.prog 241 = some [.int .i32 0] := by kernel_rfl
theorem ag242 : aggO Tryz.prog 242 = some true := by kernel_rfl
theorem by242 : bytesO Tryz.prog 242 = some 48 := by kernel_rfl
theorem sz242 : szO Tryz.prog 242 = some 11 := by kernel_rfl
theorem zc242 : zc Tryz.prog 242 = some [.int .u64 0, .int .u64 0, .int .u32 0, .int .u8 0, .int .u8 0, .int .u8 0, .int .u8 0, .nilFunc, .pointer none, .int .i32 0, .int .i32 0] := by kernel_rfl
theorem ag243 : aggO Tryz.prog 243 = some true := by kernel_rfl
theorem by243 : bytesO Tryz.prog 243 = some 48 := by kernel_rfl
theorem sz243 : szO Tryz.prog 243 = some 11 := by kernel_rfl
theorem zc243 : zc Tryz.prog 243 = some [.int .u64 0, .int .u64 0, .int .u32 0, .int .u8 0, .int .u8 0, .int .u8 0, .int .u8 0, .nilFunc, .pointer none, .int .i32 0, .int .i32 0] := by kernel_rfl
theorem ag244 : aggO Tryz.prog 244 = some false := by kernel_rfl
theorem by244 : bytesO Tryz.prog 244 = some 8 := by kernel_rfl
theorem sz244 : szO Tryz.prog 244 = some 1 := by kernel_rfl
theorem zc244 : zc Tryz.prog 244 = some [.pointer none] := by kernel_rfl
end Go.Proofs.YtaadjlpfdajggaaGreatDoor.T
