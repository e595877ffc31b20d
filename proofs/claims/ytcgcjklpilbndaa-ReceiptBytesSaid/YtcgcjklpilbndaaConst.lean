/- Closed facts on the seat's types and functions, by program. It proves no statement by itself. -/
import Derived.Test.YtcgcjklpilbndaaChecked
import Derived.Test.YtcgcjklpilbndaaMore
namespace Go.Proofs.Ytcgcjklpilbndaa
open Go E
theorem sz2 : Sz Try.prog 2 1 := sz_of (by kernel_rfl)
theorem zv2 : Zv Try.prog 2 (.int .i64 0) := zv_of (by kernel_rfl)
theorem el2 : El Try.prog 2 1 8 := el_of (by kernel_rfl) (by decide)
theorem ag2 : Ag Try.prog 2 false := ag_of false Try.underlying2 rfl
theorem sz3 : Sz Try.prog 3 1 := sz_of (by kernel_rfl)
theorem zv3 : Zv Try.prog 3 (.int .i64 0) := zv_of (by kernel_rfl)
theorem el3 : El Try.prog 3 1 8 := el_of (by kernel_rfl) (by decide)
theorem ag3 : Ag Try.prog 3 false := ag_of false Try.underlying3 rfl
theorem sz4 : Sz Try.prog 4 1 := sz_of (by kernel_rfl)
theorem zv4 : Zv Try.prog 4 (.bool false) := zv_of (by kernel_rfl)
theorem el4 : El Try.prog 4 1 1 := el_of (by kernel_rfl) (by decide)
theorem ag4 : Ag Try.prog 4 false := ag_of false Try.underlying4 rfl
theorem sz5 : Sz Try.prog 5 1 := sz_of (by kernel_rfl)
theorem zv5 : Zv Try.prog 5 (.int .u8 0) := zv_of (by kernel_rfl)
theorem el5 : El Try.prog 5 1 1 := el_of (by kernel_rfl) (by decide)
theorem ag5 : Ag Try.prog 5 false := ag_of false Try.underlying5 rfl
theorem sz9 : Sz Try.prog 9 1 := sz_of (by kernel_rfl)
theorem zv9 : Zv Try.prog 9 (.string ⟨#[]⟩) := zv_of (by kernel_rfl)
theorem el9 : El Try.prog 9 1 16 := el_of (by kernel_rfl) (by decide)
theorem ag9 : Ag Try.prog 9 false := ag_of false Try.underlying9 rfl
theorem sz12 : Sz Try.prog 12 1 := sz_of (by kernel_rfl)
theorem zv12 : Zv Try.prog 12 (.int .u64 0) := zv_of (by kernel_rfl)
theorem el12 : El Try.prog 12 1 8 := el_of (by kernel_rfl) (by decide)
theorem ag12 : Ag Try.prog 12 false := ag_of false Try.underlying12 rfl
theorem sz21 : Sz Try.prog 21 1 := sz_of (by kernel_rfl)
theorem zv21 : Zv Try.prog 21 (.int .i32 0) := zv_of (by kernel_rfl)
theorem el21 : El Try.prog 21 1 4 := el_of (by kernel_rfl) (by decide)
theorem ag21 : Ag Try.prog 21 false := ag_of false Try.underlying21 rfl
theorem sz22 : Sz Try.prog 22 1 := sz_of (by kernel_rfl)
theorem zv22 : Zv Try.prog 22 (.slice none 0 0) := zv_of (by kernel_rfl)
theorem el22 : El Try.prog 22 1 24 := el_of (by kernel_rfl) (by decide)
theorem ag22 : Ag Try.prog 22 false := ag_of false Try.underlying22 rfl
theorem sz23 : Sz Try.prog 23 1 := sz_of (by kernel_rfl)
theorem zv23 : Zv Try.prog 23 (.slice none 0 0) := zv_of (by kernel_rfl)
theorem el23 : El Try.prog 23 1 24 := el_of (by kernel_rfl) (by decide)
theorem ag23 : Ag Try.prog 23 false := ag_of false Try.underlying23 rfl
theorem sz24 : Sz Try.prog 24 1 := sz_of (by kernel_rfl)
theorem zv24 : Zv Try.prog 24 (.slice none 0 0) := zv_of (by kernel_rfl)
theorem el24 : El Try.prog 24 1 24 := el_of (by kernel_rfl) (by decide)
theorem ag24 : Ag Try.prog 24 false := ag_of false Try.underlying24 rfl
theorem sz27 : Sz Try.prog 27 1 := sz_of (by kernel_rfl)
theorem zv27 : Zv Try.prog 27 (.pointer none) := zv_of (by kernel_rfl)
theorem el27 : El Try.prog 27 1 8 := el_of (by kernel_rfl) (by decide)
theorem ag27 : Ag Try.prog 27 false := ag_of false Try.underlying27 rfl
theorem sz28 : Sz Try.prog 28 1 := sz_of (by kernel_rfl)
theorem zv28 : Zv Try.prog 28 (.map none) := zv_of (by kernel_rfl)
theorem el28 : El Try.prog 28 1 8 := el_of (by kernel_rfl) (by decide)
theorem ag28 : Ag Try.prog 28 false := ag_of false Try.underlying28 rfl
theorem sz31 : Sz Try.prog 31 1 := sz_of (by kernel_rfl)
theorem zv31 : Zv Try.prog 31 (.slice none 0 0) := zv_of (by kernel_rfl)
theorem el31 : El Try.prog 31 1 24 := el_of (by kernel_rfl) (by decide)
theorem ag31 : Ag Try.prog 31 false := ag_of false Try.underlying31 rfl
theorem sz34 : Sz Try.prog 34 1 := sz_of (by kernel_rfl)
theorem zv34 : Zv Try.prog 34 (.int .i64 0) := zv_of (by kernel_rfl)
theorem el34 : El Try.prog 34 1 8 := el_of (by kernel_rfl) (by decide)
theorem ag34 : Ag Try.prog 34 false := ag_of false Try.underlying34 rfl
theorem sz47 : Sz Try.prog 47 1 := sz_of (by kernel_rfl)
theorem zv47 : Zv Try.prog 47 (.slice none 0 0) := zv_of (by kernel_rfl)
theorem el47 : El Try.prog 47 1 24 := el_of (by kernel_rfl) (by decide)
theorem ag47 : Ag Try.prog 47 false := ag_of false Try.underlying47 rfl
theorem sz57 : Sz Try.prog 57 1 := sz_of (by kernel_rfl)
theorem zv57 : Zv Try.prog 57 (.pointer none) := zv_of (by kernel_rfl)
theorem el57 : El Try.prog 57 1 8 := el_of (by kernel_rfl) (by decide)
theorem ag57 : Ag Try.prog 57 false := ag_of false Try.underlying57 rfl
theorem sz63 : Sz Try.prog 63 1 := sz_of (by kernel_rfl)
theorem zv63 : Zv Try.prog 63 (.pointer none) := zv_of (by kernel_rfl)
theorem el63 : El Try.prog 63 1 8 := el_of (by kernel_rfl) (by decide)
theorem ag63 : Ag Try.prog 63 false := ag_of false Try.underlying63 rfl
theorem sz68 : Sz Try.prog 68 1 := sz_of (by kernel_rfl)
theorem zv68 : Zv Try.prog 68 (.slice none 0 0) := zv_of (by kernel_rfl)
theorem el68 : El Try.prog 68 1 24 := el_of (by kernel_rfl) (by decide)
theorem ag68 : Ag Try.prog 68 false := ag_of false Try.underlying68 rfl
theorem sz69 : Sz Try.prog 69 1 := sz_of (by kernel_rfl)
theorem zv69 : Zv Try.prog 69 (.pointer none) := zv_of (by kernel_rfl)
theorem el69 : El Try.prog 69 1 8 := el_of (by kernel_rfl) (by decide)
theorem ag69 : Ag Try.prog 69 false := ag_of false Try.underlying69 rfl
theorem sz70 : Sz Try.prog 70 1 := sz_of (by kernel_rfl)
theorem zv70 : Zv Try.prog 70 (.slice none 0 0) := zv_of (by kernel_rfl)
theorem el70 : El Try.prog 70 1 24 := el_of (by kernel_rfl) (by decide)
theorem ag70 : Ag Try.prog 70 false := ag_of false Try.underlying70 rfl
theorem sz73 : Sz Try.prog 73 1 := sz_of (by kernel_rfl)
theorem zv73 : Zv Try.prog 73 (.pointer none) := zv_of (by kernel_rfl)
theorem el73 : El Try.prog 73 1 8 := el_of (by kernel_rfl) (by decide)
theorem ag73 : Ag Try.prog 73 false := ag_of false Try.underlying73 rfl
theorem sz105 : Sz Try.prog 105 1 := sz_of (by kernel_rfl)
theorem zv105 : Zv Try.prog 105 (.slice none 0 0) := zv_of (by kernel_rfl)
theorem el105 : El Try.prog 105 1 24 := el_of (by kernel_rfl) (by decide)
theorem ag105 : Ag Try.prog 105 false := ag_of false Try.underlying105 rfl
theorem sz108 : Sz Try.prog 108 1 := sz_of (by kernel_rfl)
theorem zv108 : Zv Try.prog 108 (.pointer none) := zv_of (by kernel_rfl)
theorem el108 : El Try.prog 108 1 8 := el_of (by kernel_rfl) (by decide)
theorem ag108 : Ag Try.prog 108 false := ag_of false Try.underlying108 rfl
theorem sz121 : Sz Try.prog 121 1 := sz_of (by kernel_rfl)
theorem zv121 : Zv Try.prog 121 (.slice none 0 0) := zv_of (by kernel_rfl)
theorem el121 : El Try.prog 121 1 24 := el_of (by kernel_rfl) (by decide)
theorem ag121 : Ag Try.prog 121 false := ag_of false Try.underlying121 rfl
theorem sz130 : Sz Try.prog 130 1 := sz_of (by kernel_rfl)
theorem zv130 : Zv Try.prog 130 (.int .u64 0) := zv_of (by kernel_rfl)
theorem el130 : El Try.prog 130 1 8 := el_of (by kernel_rfl) (by decide)
theorem ag130 : Ag Try.prog 130 false := ag_of false Try.underlying130 rfl
theorem sz131 : Sz Try.prog 131 1 := sz_of (by kernel_rfl)
theorem zv131 : Zv Try.prog 131 (.int .u64 0) := zv_of (by kernel_rfl)
theorem el131 : El Try.prog 131 1 8 := el_of (by kernel_rfl) (by decide)
theorem ag131 : Ag Try.prog 131 false := ag_of false Try.underlying131 rfl
theorem sz139 : Sz Try.prog 139 1 := sz_of (by kernel_rfl)
theorem zv139 : Zv Try.prog 139 (.int .u32 0) := zv_of (by kernel_rfl)
theorem el139 : El Try.prog 139 1 4 := el_of (by kernel_rfl) (by decide)
theorem ag139 : Ag Try.prog 139 false := ag_of false Try.underlying139 rfl
theorem sz143 : Sz Try.prog 143 1 := sz_of (by kernel_rfl)
theorem zv143 : Zv Try.prog 143 (.pointer none) := zv_of (by kernel_rfl)
theorem el143 : El Try.prog 143 1 8 := el_of (by kernel_rfl) (by decide)
theorem ag143 : Ag Try.prog 143 false := ag_of false Try.underlying143 rfl
theorem sz13 : Sz Try.prog 13 2 := sz_of (by kernel_rfl)
def zl13 : List Value := [.string ⟨#[]⟩] ++ [.int .u64 0]
theorem zv13 : Zv Try.prog 13 (.agg zl13.toArray) := zv_of (by kernel_rfl)
theorem el13 : El Try.prog 13 2 24 := el_of (by kernel_rfl) (by decide)
theorem gd13 : Try.prog.eqGuardType Try.prog.depth 13 = false := by kernel_rfl
theorem ag13 : Ag Try.prog 13 true := ag_of true Try.underlying13 rfl
theorem sz29 : Sz Try.prog 29 2 := sz_of (by kernel_rfl)
def zl29 : List Value := [.slice none 0 0] ++ [.map none]
theorem zv29 : Zv Try.prog 29 (.agg zl29.toArray) := zv_of (by kernel_rfl)
theorem el29 : El Try.prog 29 2 32 := el_of (by kernel_rfl) (by decide)
theorem ag29 : Ag Try.prog 29 true := ag_of true Try.underlying29 rfl
theorem sz30 : Sz Try.prog 30 2 := sz_of (by kernel_rfl)
def zl30 : List Value := [.slice none 0 0] ++ [.map none]
theorem zv30 : Zv Try.prog 30 (.agg zl30.toArray) := zv_of (by kernel_rfl)
theorem el30 : El Try.prog 30 2 32 := el_of (by kernel_rfl) (by decide)
theorem ag30 : Ag Try.prog 30 true := ag_of true Try.underlying30 rfl
theorem sz32 : Sz Try.prog 32 3 := sz_of (by kernel_rfl)
def zl32 : List Value := [.slice none 0 0] ++ [.map none] ++ [.slice none 0 0]
theorem zv32 : Zv Try.prog 32 (.agg zl32.toArray) := zv_of (by kernel_rfl)
theorem el32 : El Try.prog 32 3 56 := el_of (by kernel_rfl) (by decide)
theorem ag32 : Ag Try.prog 32 true := ag_of true Try.underlying32 rfl
theorem sz33 : Sz Try.prog 33 3 := sz_of (by kernel_rfl)
def zl33 : List Value := [.slice none 0 0] ++ [.map none] ++ [.slice none 0 0]
theorem zv33 : Zv Try.prog 33 (.agg zl33.toArray) := zv_of (by kernel_rfl)
theorem el33 : El Try.prog 33 3 56 := el_of (by kernel_rfl) (by decide)
theorem ag33 : Ag Try.prog 33 true := ag_of true Try.underlying33 rfl
theorem sz39 : Sz Try.prog 39 3 := sz_of (by kernel_rfl)
def zl39 : List Value := [.int .i64 0, .int .i64 0, .int .i64 0]
theorem zv39 : Zv Try.prog 39 (.agg zl39.toArray) := zv_of (by kernel_rfl)
theorem el39 : El Try.prog 39 3 24 := el_of (by kernel_rfl) (by decide)
theorem gd39 : Try.prog.eqGuardType Try.prog.depth 39 = false := by kernel_rfl
theorem ag39 : Ag Try.prog 39 true := ag_of true Try.underlying39 rfl
theorem sz40 : Sz Try.prog 40 3 := sz_of (by kernel_rfl)
def zl40 : List Value := [.int .i64 0, .int .i64 0, .int .i64 0]
theorem zv40 : Zv Try.prog 40 (.agg zl40.toArray) := zv_of (by kernel_rfl)
theorem el40 : El Try.prog 40 3 24 := el_of (by kernel_rfl) (by decide)
theorem gd40 : Try.prog.eqGuardType Try.prog.depth 40 = false := by kernel_rfl
theorem ag40 : Ag Try.prog 40 true := ag_of true Try.underlying40 rfl
theorem sz43 : Sz Try.prog 43 32 := sz_of (by kernel_rfl)
def zl43 : List Value := List.replicate 32 (.int .u8 0)
theorem zv43 : Zv Try.prog 43 (.agg zl43.toArray) := zv_of (by kernel_rfl)
theorem el43 : El Try.prog 43 32 32 := el_of (by kernel_rfl) (by decide)
theorem gd43 : Try.prog.eqGuardType Try.prog.depth 43 = false := by kernel_rfl
theorem eq43 : EqT Try.prog 2 43 (IntT .u8 32) := EqT.ints Try.underlying43 Try.underlying5 ag5 sz5
theorem ag43 : Ag Try.prog 43 true := ag_of true Try.underlying43 rfl
theorem sz44 : Sz Try.prog 44 32 := sz_of (by kernel_rfl)
def zl44 : List Value := List.replicate 32 (.int .u8 0)
theorem zv44 : Zv Try.prog 44 (.agg zl44.toArray) := zv_of (by kernel_rfl)
theorem el44 : El Try.prog 44 32 32 := el_of (by kernel_rfl) (by decide)
theorem gd44 : Try.prog.eqGuardType Try.prog.depth 44 = false := by kernel_rfl
theorem eq44 : EqT Try.prog 2 44 (IntT .u8 32) := EqT.ints Try.underlying44 Try.underlying5 ag5 sz5
theorem ag44 : Ag Try.prog 44 true := ag_of true Try.underlying44 rfl
theorem sz45 : Sz Try.prog 45 67 := sz_of (by kernel_rfl)
def zl45 : List Value := [.int .i64 0, .int .i64 0, .int .i64 0] ++ List.replicate 64 (.int .u8 0)
theorem zv45 : Zv Try.prog 45 (.agg zl45.toArray) := zv_of (by kernel_rfl)
theorem el45 : El Try.prog 45 67 88 := el_of (by kernel_rfl) (by decide)
theorem gd45 : Try.prog.eqGuardType Try.prog.depth 45 = false := by kernel_rfl
theorem ag45 : Ag Try.prog 45 true := ag_of true Try.underlying45 rfl
theorem sz46 : Sz Try.prog 46 67 := sz_of (by kernel_rfl)
def zl46 : List Value := [.int .i64 0, .int .i64 0, .int .i64 0] ++ List.replicate 64 (.int .u8 0)
theorem zv46 : Zv Try.prog 46 (.agg zl46.toArray) := zv_of (by kernel_rfl)
theorem el46 : El Try.prog 46 67 88 := el_of (by kernel_rfl) (by decide)
theorem gd46 : Try.prog.eqGuardType Try.prog.depth 46 = false := by kernel_rfl
theorem ag46 : Ag Try.prog 46 true := ag_of true Try.underlying46 rfl
theorem sz53 : Sz Try.prog 53 68 := sz_of (by kernel_rfl)
def zl53 : List Value := [.int .i64 0, .int .i64 0, .int .i64 0] ++ List.replicate 64 (.int .u8 0) ++ [.slice none 0 0]
theorem zv53 : Zv Try.prog 53 (.agg zl53.toArray) := zv_of (by kernel_rfl)
theorem el53 : El Try.prog 53 68 112 := el_of (by kernel_rfl) (by decide)
theorem ag53 : Ag Try.prog 53 true := ag_of true Try.underlying53 rfl
theorem sz54 : Sz Try.prog 54 68 := sz_of (by kernel_rfl)
def zl54 : List Value := [.int .i64 0, .int .i64 0, .int .i64 0] ++ List.replicate 64 (.int .u8 0) ++ [.slice none 0 0]
theorem zv54 : Zv Try.prog 54 (.agg zl54.toArray) := zv_of (by kernel_rfl)
theorem el54 : El Try.prog 54 68 112 := el_of (by kernel_rfl) (by decide)
theorem ag54 : Ag Try.prog 54 true := ag_of true Try.underlying54 rfl
theorem sz55 : Sz Try.prog 55 1 := sz_of (by kernel_rfl)
def zl55 : List Value := [.slice none 0 0]
theorem zv55 : Zv Try.prog 55 (.agg zl55.toArray) := zv_of (by kernel_rfl)
theorem el55 : El Try.prog 55 1 24 := el_of (by kernel_rfl) (by decide)
theorem ag55 : Ag Try.prog 55 true := ag_of true Try.underlying55 rfl
theorem sz56 : Sz Try.prog 56 1 := sz_of (by kernel_rfl)
def zl56 : List Value := [.slice none 0 0]
theorem zv56 : Zv Try.prog 56 (.agg zl56.toArray) := zv_of (by kernel_rfl)
theorem el56 : El Try.prog 56 1 24 := el_of (by kernel_rfl) (by decide)
theorem ag56 : Ag Try.prog 56 true := ag_of true Try.underlying56 rfl
theorem sz71 : Sz Try.prog 71 2 := sz_of (by kernel_rfl)
def zl71 : List Value := [.slice none 0 0] ++ [.int .i64 0]
theorem zv71 : Zv Try.prog 71 (.agg zl71.toArray) := zv_of (by kernel_rfl)
theorem el71 : El Try.prog 71 2 32 := el_of (by kernel_rfl) (by decide)
theorem ag71 : Ag Try.prog 71 true := ag_of true Try.underlying71 rfl
theorem sz72 : Sz Try.prog 72 2 := sz_of (by kernel_rfl)
def zl72 : List Value := [.slice none 0 0] ++ [.int .i64 0]
theorem zv72 : Zv Try.prog 72 (.agg zl72.toArray) := zv_of (by kernel_rfl)
theorem el72 : El Try.prog 72 2 32 := el_of (by kernel_rfl) (by decide)
theorem ag72 : Ag Try.prog 72 true := ag_of true Try.underlying72 rfl
theorem sz74 : Sz Try.prog 74 2 := sz_of (by kernel_rfl)
def zl74 : List Value := [.slice none 0 0] ++ [.int .i64 0]
theorem zv74 : Zv Try.prog 74 (.agg zl74.toArray) := zv_of (by kernel_rfl)
theorem el74 : El Try.prog 74 2 32 := el_of (by kernel_rfl) (by decide)
theorem ag74 : Ag Try.prog 74 true := ag_of true Try.underlying74 rfl
theorem sz75 : Sz Try.prog 75 2 := sz_of (by kernel_rfl)
def zl75 : List Value := [.slice none 0 0] ++ [.int .i64 0]
theorem zv75 : Zv Try.prog 75 (.agg zl75.toArray) := zv_of (by kernel_rfl)
theorem el75 : El Try.prog 75 2 32 := el_of (by kernel_rfl) (by decide)
theorem ag75 : Ag Try.prog 75 true := ag_of true Try.underlying75 rfl
theorem sz76 : Sz Try.prog 76 64 := sz_of (by kernel_rfl)
def zl76 : List Value := List.replicate 64 (.int .u8 0)
theorem zv76 : Zv Try.prog 76 (.agg zl76.toArray) := zv_of (by kernel_rfl)
theorem el76 : El Try.prog 76 64 64 := el_of (by kernel_rfl) (by decide)
theorem gd76 : Try.prog.eqGuardType Try.prog.depth 76 = false := by kernel_rfl
theorem ag76 : Ag Try.prog 76 true := ag_of true Try.underlying76 rfl
theorem sz77 : Sz Try.prog 77 67 := sz_of (by kernel_rfl)
def zl77 : List Value := [.int .i64 0, .int .i64 0, .int .i64 0] ++ List.replicate 64 (.int .u8 0)
theorem zv77 : Zv Try.prog 77 (.agg zl77.toArray) := zv_of (by kernel_rfl)
theorem el77 : El Try.prog 77 67 88 := el_of (by kernel_rfl) (by decide)
theorem gd77 : Try.prog.eqGuardType Try.prog.depth 77 = false := by kernel_rfl
theorem ag77 : Ag Try.prog 77 true := ag_of true Try.underlying77 rfl
theorem sz78 : Sz Try.prog 78 67 := sz_of (by kernel_rfl)
def zl78 : List Value := [.int .i64 0, .int .i64 0, .int .i64 0] ++ List.replicate 64 (.int .u8 0)
theorem zv78 : Zv Try.prog 78 (.agg zl78.toArray) := zv_of (by kernel_rfl)
theorem el78 : El Try.prog 78 67 88 := el_of (by kernel_rfl) (by decide)
theorem gd78 : Try.prog.eqGuardType Try.prog.depth 78 = false := by kernel_rfl
theorem ag78 : Ag Try.prog 78 true := ag_of true Try.underlying78 rfl
theorem sz79 : Sz Try.prog 79 33 := sz_of (by kernel_rfl)
def zl79 : List Value := [.int .i64 0] ++ List.replicate 32 (.int .u8 0)
theorem zv79 : Zv Try.prog 79 (.agg zl79.toArray) := zv_of (by kernel_rfl)
theorem el79 : El Try.prog 79 33 40 := el_of (by kernel_rfl) (by decide)
theorem gd79 : Try.prog.eqGuardType Try.prog.depth 79 = false := by kernel_rfl
theorem ag79 : Ag Try.prog 79 true := ag_of true Try.underlying79 rfl
theorem sz80 : Sz Try.prog 80 33 := sz_of (by kernel_rfl)
def zl80 : List Value := [.int .i64 0] ++ List.replicate 32 (.int .u8 0)
theorem zv80 : Zv Try.prog 80 (.agg zl80.toArray) := zv_of (by kernel_rfl)
theorem el80 : El Try.prog 80 33 40 := el_of (by kernel_rfl) (by decide)
theorem gd80 : Try.prog.eqGuardType Try.prog.depth 80 = false := by kernel_rfl
theorem ag80 : Ag Try.prog 80 true := ag_of true Try.underlying80 rfl
theorem sz81 : Sz Try.prog 81 35 := sz_of (by kernel_rfl)
def zl81 : List Value := [.int .i64 0, .int .i64 0] ++ List.replicate 32 (.int .u8 0) ++ [.slice none 0 0]
theorem zv81 : Zv Try.prog 81 (.agg zl81.toArray) := zv_of (by kernel_rfl)
theorem el81 : El Try.prog 81 35 72 := el_of (by kernel_rfl) (by decide)
theorem ag81 : Ag Try.prog 81 true := ag_of true Try.underlying81 rfl
theorem sz82 : Sz Try.prog 82 35 := sz_of (by kernel_rfl)
def zl82 : List Value := [.int .i64 0, .int .i64 0] ++ List.replicate 32 (.int .u8 0) ++ [.slice none 0 0]
theorem zv82 : Zv Try.prog 82 (.agg zl82.toArray) := zv_of (by kernel_rfl)
theorem el82 : El Try.prog 82 35 72 := el_of (by kernel_rfl) (by decide)
theorem ag82 : Ag Try.prog 82 true := ag_of true Try.underlying82 rfl
theorem sz83 : Sz Try.prog 83 239 := sz_of (by kernel_rfl)
def zl83 : List Value := List.replicate 6 (.int .i64 0) ++ List.replicate 64 (.int .u8 0) ++ [.int .i64 0] ++ List.replicate 32 (.int .u8 0) ++ [.int .i64 0] ++ List.replicate 32 (.int .u8 0) ++ [.int .i64 0, .int .i64 0] ++ List.replicate 32 (.int .u8 0) ++ [.slice none 0 0] ++ [.int .i64 0, .int .i64 0, .int .i64 0] ++ List.replicate 64 (.int .u8 0) ++ [.slice none 0 0]
theorem zv83 : Zv Try.prog 83 (.agg zl83.toArray) := zv_of (by kernel_rfl)
theorem el83 : El Try.prog 83 239 376 := el_of (by kernel_rfl) (by decide)
theorem ag83 : Ag Try.prog 83 true := ag_of true Try.underlying83 rfl
theorem sz84 : Sz Try.prog 84 239 := sz_of (by kernel_rfl)
def zl84 : List Value := List.replicate 6 (.int .i64 0) ++ List.replicate 64 (.int .u8 0) ++ [.int .i64 0] ++ List.replicate 32 (.int .u8 0) ++ [.int .i64 0] ++ List.replicate 32 (.int .u8 0) ++ [.int .i64 0, .int .i64 0] ++ List.replicate 32 (.int .u8 0) ++ [.slice none 0 0] ++ [.int .i64 0, .int .i64 0, .int .i64 0] ++ List.replicate 64 (.int .u8 0) ++ [.slice none 0 0]
theorem zv84 : Zv Try.prog 84 (.agg zl84.toArray) := zv_of (by kernel_rfl)
theorem el84 : El Try.prog 84 239 376 := el_of (by kernel_rfl) (by decide)
theorem ag84 : Ag Try.prog 84 true := ag_of true Try.underlying84 rfl
theorem sz85 : Sz Try.prog 85 243 := sz_of (by kernel_rfl)
def zl85 : List Value := List.replicate 9 (.int .i64 0) ++ List.replicate 64 (.int .u8 0) ++ [.int .i64 0] ++ List.replicate 32 (.int .u8 0) ++ [.int .i64 0] ++ List.replicate 32 (.int .u8 0) ++ [.int .i64 0, .int .i64 0] ++ List.replicate 32 (.int .u8 0) ++ [.slice none 0 0] ++ [.int .i64 0, .int .i64 0, .int .i64 0] ++ List.replicate 64 (.int .u8 0) ++ [.slice none 0 0, .slice none 0 0]
theorem zv85 : Zv Try.prog 85 (.agg zl85.toArray) := zv_of (by kernel_rfl)
theorem el85 : El Try.prog 85 243 424 := el_of (by kernel_rfl) (by decide)
theorem ag85 : Ag Try.prog 85 true := ag_of true Try.underlying85 rfl
theorem sz86 : Sz Try.prog 86 243 := sz_of (by kernel_rfl)
def zl86 : List Value := List.replicate 9 (.int .i64 0) ++ List.replicate 64 (.int .u8 0) ++ [.int .i64 0] ++ List.replicate 32 (.int .u8 0) ++ [.int .i64 0] ++ List.replicate 32 (.int .u8 0) ++ [.int .i64 0, .int .i64 0] ++ List.replicate 32 (.int .u8 0) ++ [.slice none 0 0] ++ [.int .i64 0, .int .i64 0, .int .i64 0] ++ List.replicate 64 (.int .u8 0) ++ [.slice none 0 0, .slice none 0 0]
theorem zv86 : Zv Try.prog 86 (.agg zl86.toArray) := zv_of (by kernel_rfl)
theorem el86 : El Try.prog 86 243 424 := el_of (by kernel_rfl) (by decide)
theorem ag86 : Ag Try.prog 86 true := ag_of true Try.underlying86 rfl
theorem sz89 : Sz Try.prog 89 2 := sz_of (by kernel_rfl)
def zl89 : List Value := [.int .i64 0] ++ [.slice none 0 0]
theorem zv89 : Zv Try.prog 89 (.agg zl89.toArray) := zv_of (by kernel_rfl)
theorem el89 : El Try.prog 89 2 32 := el_of (by kernel_rfl) (by decide)
theorem ag89 : Ag Try.prog 89 true := ag_of true Try.underlying89 rfl
theorem sz90 : Sz Try.prog 90 2 := sz_of (by kernel_rfl)
def zl90 : List Value := [.int .i64 0] ++ [.slice none 0 0]
theorem zv90 : Zv Try.prog 90 (.agg zl90.toArray) := zv_of (by kernel_rfl)
theorem el90 : El Try.prog 90 2 32 := el_of (by kernel_rfl) (by decide)
theorem ag90 : Ag Try.prog 90 true := ag_of true Try.underlying90 rfl
theorem sz127 : Sz Try.prog 127 2 := sz_of (by kernel_rfl)
def zl127 : List Value := [.slice none 0 0] ++ [.int .i64 0]
theorem zv127 : Zv Try.prog 127 (.agg zl127.toArray) := zv_of (by kernel_rfl)
theorem el127 : El Try.prog 127 2 32 := el_of (by kernel_rfl) (by decide)
theorem ag127 : Ag Try.prog 127 true := ag_of true Try.underlying127 rfl
theorem sz128 : Sz Try.prog 128 2 := sz_of (by kernel_rfl)
def zl128 : List Value := [.slice none 0 0] ++ [.int .i64 0]
theorem zv128 : Zv Try.prog 128 (.agg zl128.toArray) := zv_of (by kernel_rfl)
theorem el128 : El Try.prog 128 2 32 := el_of (by kernel_rfl) (by decide)
theorem ag128 : Ag Try.prog 128 true := ag_of true Try.underlying128 rfl
theorem nm3 : (Try.f3.name == "runtime.NumGoroutine") = false := by kernel_rfl
theorem nm4 : (Try.f4.name == "runtime.NumGoroutine") = false := by kernel_rfl
theorem nm5 : (Try.f5.name == "runtime.NumGoroutine") = false := by kernel_rfl
theorem nm6 : (Try.f6.name == "runtime.NumGoroutine") = false := by kernel_rfl
theorem nm7 : (Try.f7.name == "runtime.NumGoroutine") = false := by kernel_rfl
theorem nm8 : (Try.f8.name == "runtime.NumGoroutine") = false := by kernel_rfl
theorem nm9 : (Try.f9.name == "runtime.NumGoroutine") = false := by kernel_rfl
theorem nm10 : (Try.f10.name == "runtime.NumGoroutine") = false := by kernel_rfl
theorem nm11 : (Try.f11.name == "runtime.NumGoroutine") = false := by kernel_rfl
theorem nm12 : (Try.f12.name == "runtime.NumGoroutine") = false := by kernel_rfl
theorem nm13 : (Try.f13.name == "runtime.NumGoroutine") = false := by kernel_rfl
theorem nm14 : (Try.f14.name == "runtime.NumGoroutine") = false := by kernel_rfl
theorem nm15 : (Try.f15.name == "runtime.NumGoroutine") = false := by kernel_rfl
theorem nm16 : (Try.f16.name == "runtime.NumGoroutine") = false := by kernel_rfl
theorem nm17 : (Try.f17.name == "runtime.NumGoroutine") = false := by kernel_rfl
theorem nm18 : (Try.f18.name == "runtime.NumGoroutine") = false := by kernel_rfl
theorem nm19 : (Try.f19.name == "runtime.NumGoroutine") = false := by kernel_rfl
theorem nm20 : (Try.f20.name == "runtime.NumGoroutine") = false := by kernel_rfl
theorem nm21 : (Try.f21.name == "runtime.NumGoroutine") = false := by kernel_rfl
theorem nm22 : (Try.f22.name == "runtime.NumGoroutine") = false := by kernel_rfl
theorem nm23 : (Try.f23.name == "runtime.NumGoroutine") = false := by kernel_rfl
theorem nm24 : (Try.f24.name == "runtime.NumGoroutine") = false := by kernel_rfl
theorem nm25 : (Try.f25.name == "runtime.NumGoroutine") = false := by kernel_rfl
theorem nm26 : (Try.f26.name == "runtime.NumGoroutine") = false := by kernel_rfl
theorem nm27 : (Try.f27.name == "runtime.NumGoroutine") = false := by kernel_rfl
theorem nm28 : (Try.f28.name == "runtime.NumGoroutine") = false := by kernel_rfl
theorem nm29 : (Try.f29.name == "runtime.NumGoroutine") = false := by kernel_rfl
theorem nm30 : (Try.f30.name == "runtime.NumGoroutine") = false := by kernel_rfl
theorem nm31 : (Try.f31.name == "runtime.NumGoroutine") = false := by kernel_rfl
theorem nm32 : (Try.f32.name == "runtime.NumGoroutine") = false := by kernel_rfl
theorem nm33 : (Try.f33.name == "runtime.NumGoroutine") = false := by kernel_rfl
theorem nm34 : (Try.f34.name == "runtime.NumGoroutine") = false := by kernel_rfl
theorem nm35 : (Try.f35.name == "runtime.NumGoroutine") = false := by kernel_rfl
theorem nm36 : (Try.f36.name == "runtime.NumGoroutine") = false := by kernel_rfl
theorem nm37 : (Try.f37.name == "runtime.NumGoroutine") = false := by kernel_rfl
theorem nm38 : (Try.f38.name == "runtime.NumGoroutine") = false := by kernel_rfl
theorem nm39 : (Try.f39.name == "runtime.NumGoroutine") = false := by kernel_rfl
theorem nm40 : (Try.f40.name == "runtime.NumGoroutine") = false := by kernel_rfl
theorem nm41 : (Try.f41.name == "runtime.NumGoroutine") = false := by kernel_rfl
theorem nm42 : (Try.f42.name == "runtime.NumGoroutine") = false := by kernel_rfl
theorem nm43 : (Try.f43.name == "runtime.NumGoroutine") = false := by kernel_rfl
theorem nm44 : (Try.f44.name == "runtime.NumGoroutine") = false := by kernel_rfl
theorem nm45 : (Try.f45.name == "runtime.NumGoroutine") = false := by kernel_rfl
theorem nm46 : (Try.f46.name == "runtime.NumGoroutine") = false := by kernel_rfl
theorem nm47 : (Try.f47.name == "runtime.NumGoroutine") = false := by kernel_rfl
theorem nm48 : (Try.f48.name == "runtime.NumGoroutine") = false := by kernel_rfl
theorem nm49 : (Try.f49.name == "runtime.NumGoroutine") = false := by kernel_rfl
theorem nm50 : (Try.f50.name == "runtime.NumGoroutine") = false := by kernel_rfl
theorem nm51 : (Try.f51.name == "runtime.NumGoroutine") = false := by kernel_rfl
theorem nm52 : (Try.f52.name == "runtime.NumGoroutine") = false := by kernel_rfl
theorem nm53 : (Try.f53.name == "runtime.NumGoroutine") = false := by kernel_rfl
theorem nm54 : (Try.f54.name == "runtime.NumGoroutine") = false := by kernel_rfl
theorem nm55 : (Try.f55.name == "runtime.NumGoroutine") = false := by kernel_rfl
theorem nm56 : (Try.f56.name == "runtime.NumGoroutine") = false := by kernel_rfl
theorem nm57 : (Try.f57.name == "runtime.NumGoroutine") = false := by kernel_rfl
theorem nm58 : (Try.f58.name == "runtime.NumGoroutine") = false := by kernel_rfl
theorem nm59 : (Try.f59.name == "runtime.NumGoroutine") = false := by kernel_rfl
theorem nm60 : (Try.f60.name == "runtime.NumGoroutine") = false := by kernel_rfl
theorem nm61 : (Try.f61.name == "runtime.NumGoroutine") = false := by kernel_rfl
theorem nm62 : (Try.f62.name == "runtime.NumGoroutine") = false := by kernel_rfl
theorem nm63 : (Try.f63.name == "runtime.NumGoroutine") = false := by kernel_rfl
theorem nm64 : (Try.f64.name == "runtime.NumGoroutine") = false := by kernel_rfl
theorem nm65 : (Try.f65.name == "runtime.NumGoroutine") = false := by kernel_rfl
theorem nm66 : (Try.f66.name == "runtime.NumGoroutine") = false := by kernel_rfl
theorem nm67 : (Try.f67.name == "runtime.NumGoroutine") = false := by kernel_rfl
theorem nm68 : (Try.f68.name == "runtime.NumGoroutine") = false := by kernel_rfl
theorem nm69 : (Try.f69.name == "runtime.NumGoroutine") = false := by kernel_rfl
theorem nm70 : (Try.f70.name == "runtime.NumGoroutine") = false := by kernel_rfl
theorem nm71 : (Try.f71.name == "runtime.NumGoroutine") = false := by kernel_rfl
theorem nm72 : (Try.f72.name == "runtime.NumGoroutine") = false := by kernel_rfl
theorem nm73 : (Try.f73.name == "runtime.NumGoroutine") = false := by kernel_rfl
theorem nm74 : (Try.f74.name == "runtime.NumGoroutine") = false := by kernel_rfl
theorem mixed : Try.prog.follows .mixedOrders = true := by kernel_rfl
end Go.Proofs.Ytcgcjklpilbndaa
