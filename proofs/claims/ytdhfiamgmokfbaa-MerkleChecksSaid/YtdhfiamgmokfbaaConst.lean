/- Closed facts on the seat's types and functions, by program. It proves no statement by itself. -/
import Derived.Test.YtdhfiamgmokfbaaChecked
import Derived.Test.YtdhfiamgmokfbaaMore
namespace Go.Proofs.Ytdhfiamgmokfbaa
open Go E
theorem sz2 : Sz Try.prog 2 1 := sz_of (by kernel_rfl)
theorem zv2 : Zv Try.prog 2 (.int .i64 0) := zv_of (by kernel_rfl)
theorem el2 : El Try.prog 2 1 8 := el_of (by kernel_rfl) (by decide)
theorem ag2 : Ag Try.prog 2 false := ag_of false Try.underlying2 rfl
theorem sz3 : Sz Try.prog 3 1 := sz_of (by kernel_rfl)
theorem zv3 : Zv Try.prog 3 (.int .i64 0) := zv_of (by kernel_rfl)
theorem el3 : El Try.prog 3 1 8 := el_of (by kernel_rfl) (by decide)
theorem ag3 : Ag Try.prog 3 false := ag_of false Try.underlying3 rfl
theorem sz4 : Sz Try.prog 4 1 := sz_of (by kernel_rfl)
theorem zv4 : Zv Try.prog 4 (.bool false) := zv_of (by kernel_rfl)
theorem el4 : El Try.prog 4 1 1 := el_of (by kernel_rfl) (by decide)
theorem ag4 : Ag Try.prog 4 false := ag_of false Try.underlying4 rfl
theorem sz5 : Sz Try.prog 5 1 := sz_of (by kernel_rfl)
theorem zv5 : Zv Try.prog 5 (.int .u8 0) := zv_of (by kernel_rfl)
theorem el5 : El Try.prog 5 1 1 := el_of (by kernel_rfl) (by decide)
theorem ag5 : Ag Try.prog 5 false := ag_of false Try.underlying5 rfl
theorem sz9 : Sz Try.prog 9 1 := sz_of (by kernel_rfl)
theorem zv9 : Zv Try.prog 9 (.string ⟨#[]⟩) := zv_of (by kernel_rfl)
theorem el9 : El Try.prog 9 1 16 := el_of (by kernel_rfl) (by decide)
theorem ag9 : Ag Try.prog 9 false := ag_of false Try.underlying9 rfl
theorem sz12 : Sz Try.prog 12 1 := sz_of (by kernel_rfl)
theorem zv12 : Zv Try.prog 12 (.int .u64 0) := zv_of (by kernel_rfl)
theorem el12 : El Try.prog 12 1 8 := el_of (by kernel_rfl) (by decide)
theorem ag12 : Ag Try.prog 12 false := ag_of false Try.underlying12 rfl
theorem sz21 : Sz Try.prog 21 1 := sz_of (by kernel_rfl)
theorem zv21 : Zv Try.prog 21 (.int .i32 0) := zv_of (by kernel_rfl)
theorem el21 : El Try.prog 21 1 4 := el_of (by kernel_rfl) (by decide)
theorem ag21 : Ag Try.prog 21 false := ag_of false Try.underlying21 rfl
theorem sz22 : Sz Try.prog 22 1 := sz_of (by kernel_rfl)
theorem zv22 : Zv Try.prog 22 (.slice none 0 0) := zv_of (by kernel_rfl)
theorem el22 : El Try.prog 22 1 24 := el_of (by kernel_rfl) (by decide)
theorem ag22 : Ag Try.prog 22 false := ag_of false Try.underlying22 rfl
theorem sz23 : Sz Try.prog 23 1 := sz_of (by kernel_rfl)
theorem zv23 : Zv Try.prog 23 (.pointer none) := zv_of (by kernel_rfl)
theorem el23 : El Try.prog 23 1 8 := el_of (by kernel_rfl) (by decide)
theorem ag23 : Ag Try.prog 23 false := ag_of false Try.underlying23 rfl
theorem sz24 : Sz Try.prog 24 1 := sz_of (by kernel_rfl)
theorem zv24 : Zv Try.prog 24 (.slice none 0 0) := zv_of (by kernel_rfl)
theorem el24 : El Try.prog 24 1 24 := el_of (by kernel_rfl) (by decide)
theorem ag24 : Ag Try.prog 24 false := ag_of false Try.underlying24 rfl
theorem sz33 : Sz Try.prog 33 1 := sz_of (by kernel_rfl)
theorem zv33 : Zv Try.prog 33 (.slice none 0 0) := zv_of (by kernel_rfl)
theorem el33 : El Try.prog 33 1 24 := el_of (by kernel_rfl) (by decide)
theorem ag33 : Ag Try.prog 33 false := ag_of false Try.underlying33 rfl
theorem sz34 : Sz Try.prog 34 1 := sz_of (by kernel_rfl)
theorem zv34 : Zv Try.prog 34 (.int .i64 0) := zv_of (by kernel_rfl)
theorem el34 : El Try.prog 34 1 8 := el_of (by kernel_rfl) (by decide)
theorem ag34 : Ag Try.prog 34 false := ag_of false Try.underlying34 rfl
theorem sz67 : Sz Try.prog 67 1 := sz_of (by kernel_rfl)
theorem zv67 : Zv Try.prog 67 (.slice none 0 0) := zv_of (by kernel_rfl)
theorem el67 : El Try.prog 67 1 24 := el_of (by kernel_rfl) (by decide)
theorem ag67 : Ag Try.prog 67 false := ag_of false Try.underlying67 rfl
theorem sz81 : Sz Try.prog 81 1 := sz_of (by kernel_rfl)
theorem zv81 : Zv Try.prog 81 (.slice none 0 0) := zv_of (by kernel_rfl)
theorem el81 : El Try.prog 81 1 24 := el_of (by kernel_rfl) (by decide)
theorem ag81 : Ag Try.prog 81 false := ag_of false Try.underlying81 rfl
theorem sz82 : Sz Try.prog 82 1 := sz_of (by kernel_rfl)
theorem zv82 : Zv Try.prog 82 (.slice none 0 0) := zv_of (by kernel_rfl)
theorem el82 : El Try.prog 82 1 24 := el_of (by kernel_rfl) (by decide)
theorem ag82 : Ag Try.prog 82 false := ag_of false Try.underlying82 rfl
theorem sz85 : Sz Try.prog 85 1 := sz_of (by kernel_rfl)
theorem zv85 : Zv Try.prog 85 (.slice none 0 0) := zv_of (by kernel_rfl)
theorem el85 : El Try.prog 85 1 24 := el_of (by kernel_rfl) (by decide)
theorem ag85 : Ag Try.prog 85 false := ag_of false Try.underlying85 rfl
theorem sz90 : Sz Try.prog 90 1 := sz_of (by kernel_rfl)
theorem zv90 : Zv Try.prog 90 (.slice none 0 0) := zv_of (by kernel_rfl)
theorem el90 : El Try.prog 90 1 24 := el_of (by kernel_rfl) (by decide)
theorem ag90 : Ag Try.prog 90 false := ag_of false Try.underlying90 rfl
theorem sz91 : Sz Try.prog 91 1 := sz_of (by kernel_rfl)
theorem zv91 : Zv Try.prog 91 (.pointer none) := zv_of (by kernel_rfl)
theorem el91 : El Try.prog 91 1 8 := el_of (by kernel_rfl) (by decide)
theorem ag91 : Ag Try.prog 91 false := ag_of false Try.underlying91 rfl
theorem sz99 : Sz Try.prog 99 1 := sz_of (by kernel_rfl)
theorem zv99 : Zv Try.prog 99 (.pointer none) := zv_of (by kernel_rfl)
theorem el99 : El Try.prog 99 1 8 := el_of (by kernel_rfl) (by decide)
theorem ag99 : Ag Try.prog 99 false := ag_of false Try.underlying99 rfl
theorem sz109 : Sz Try.prog 109 1 := sz_of (by kernel_rfl)
theorem zv109 : Zv Try.prog 109 (.slice none 0 0) := zv_of (by kernel_rfl)
theorem el109 : El Try.prog 109 1 24 := el_of (by kernel_rfl) (by decide)
theorem ag109 : Ag Try.prog 109 false := ag_of false Try.underlying109 rfl
theorem sz120 : Sz Try.prog 120 1 := sz_of (by kernel_rfl)
theorem zv120 : Zv Try.prog 120 (.int .u64 0) := zv_of (by kernel_rfl)
theorem el120 : El Try.prog 120 1 8 := el_of (by kernel_rfl) (by decide)
theorem ag120 : Ag Try.prog 120 false := ag_of false Try.underlying120 rfl
theorem sz128 : Sz Try.prog 128 1 := sz_of (by kernel_rfl)
theorem zv128 : Zv Try.prog 128 (.slice none 0 0) := zv_of (by kernel_rfl)
theorem el128 : El Try.prog 128 1 24 := el_of (by kernel_rfl) (by decide)
theorem ag128 : Ag Try.prog 128 false := ag_of false Try.underlying128 rfl
theorem sz133 : Sz Try.prog 133 1 := sz_of (by kernel_rfl)
theorem zv133 : Zv Try.prog 133 (.int .u32 0) := zv_of (by kernel_rfl)
theorem el133 : El Try.prog 133 1 4 := el_of (by kernel_rfl) (by decide)
theorem ag133 : Ag Try.prog 133 false := ag_of false Try.underlying133 rfl
theorem sz140 : Sz Try.prog 140 1 := sz_of (by kernel_rfl)
theorem zv140 : Zv Try.prog 140 (.pointer none) := zv_of (by kernel_rfl)
theorem el140 : El Try.prog 140 1 8 := el_of (by kernel_rfl) (by decide)
theorem ag140 : Ag Try.prog 140 false := ag_of false Try.underlying140 rfl
theorem sz145 : Sz Try.prog 145 1 := sz_of (by kernel_rfl)
theorem zv145 : Zv Try.prog 145 (.slice none 0 0) := zv_of (by kernel_rfl)
theorem el145 : El Try.prog 145 1 24 := el_of (by kernel_rfl) (by decide)
theorem ag145 : Ag Try.prog 145 false := ag_of false Try.underlying145 rfl
theorem sz150 : Sz Try.prog 150 1 := sz_of (by kernel_rfl)
theorem zv150 : Zv Try.prog 150 (.int .u64 0) := zv_of (by kernel_rfl)
theorem el150 : El Try.prog 150 1 8 := el_of (by kernel_rfl) (by decide)
theorem ag150 : Ag Try.prog 150 false := ag_of false Try.underlying150 rfl
theorem sz152 : Sz Try.prog 152 1 := sz_of (by kernel_rfl)
theorem zv152 : Zv Try.prog 152 (.pointer none) := zv_of (by kernel_rfl)
theorem el152 : El Try.prog 152 1 8 := el_of (by kernel_rfl) (by decide)
theorem ag152 : Ag Try.prog 152 false := ag_of false Try.underlying152 rfl
theorem sz159 : Sz Try.prog 159 1 := sz_of (by kernel_rfl)
theorem zv159 : Zv Try.prog 159 (.pointer none) := zv_of (by kernel_rfl)
theorem el159 : El Try.prog 159 1 8 := el_of (by kernel_rfl) (by decide)
theorem ag159 : Ag Try.prog 159 false := ag_of false Try.underlying159 rfl
theorem sz162 : Sz Try.prog 162 1 := sz_of (by kernel_rfl)
theorem zv162 : Zv Try.prog 162 (.slice none 0 0) := zv_of (by kernel_rfl)
theorem el162 : El Try.prog 162 1 24 := el_of (by kernel_rfl) (by decide)
theorem ag162 : Ag Try.prog 162 false := ag_of false Try.underlying162 rfl
theorem sz175 : Sz Try.prog 175 1 := sz_of (by kernel_rfl)
theorem zv175 : Zv Try.prog 175 (.pointer none) := zv_of (by kernel_rfl)
theorem el175 : El Try.prog 175 1 8 := el_of (by kernel_rfl) (by decide)
theorem ag175 : Ag Try.prog 175 false := ag_of false Try.underlying175 rfl
theorem sz13 : Sz Try.prog 13 2 := sz_of (by kernel_rfl)
def zl13 : List Value := [.string ⟨#[]⟩] ++ [.int .u64 0]
theorem zv13 : Zv Try.prog 13 (.agg zl13.toArray) := zv_of (by kernel_rfl)
theorem el13 : El Try.prog 13 2 24 := el_of (by kernel_rfl) (by decide)
theorem gd13 : Try.prog.eqGuardType Try.prog.depth 13 = false := by kernel_rfl
theorem ag13 : Ag Try.prog 13 true := ag_of true Try.underlying13 rfl
theorem sz25 : Sz Try.prog 25 1 := sz_of (by kernel_rfl)
def zl25 : List Value := [.slice none 0 0]
theorem zv25 : Zv Try.prog 25 (.agg zl25.toArray) := zv_of (by kernel_rfl)
theorem el25 : El Try.prog 25 1 24 := el_of (by kernel_rfl) (by decide)
theorem ag25 : Ag Try.prog 25 true := ag_of true Try.underlying25 rfl
theorem sz26 : Sz Try.prog 26 1 := sz_of (by kernel_rfl)
def zl26 : List Value := [.slice none 0 0]
theorem zv26 : Zv Try.prog 26 (.agg zl26.toArray) := zv_of (by kernel_rfl)
theorem el26 : El Try.prog 26 1 24 := el_of (by kernel_rfl) (by decide)
theorem ag26 : Ag Try.prog 26 true := ag_of true Try.underlying26 rfl
theorem sz28 : Sz Try.prog 28 32 := sz_of (by kernel_rfl)
def zl28 : List Value := List.replicate 32 (.int .u8 0)
theorem zv28 : Zv Try.prog 28 (.agg zl28.toArray) := zv_of (by kernel_rfl)
theorem el28 : El Try.prog 28 32 32 := el_of (by kernel_rfl) (by decide)
theorem gd28 : Try.prog.eqGuardType Try.prog.depth 28 = false := by kernel_rfl
theorem eq28 : EqT Try.prog 2 28 (IntT .u8 32) := EqT.ints Try.underlying28 Try.underlying5 ag5 sz5
theorem ag28 : Ag Try.prog 28 true := ag_of true Try.underlying28 rfl
theorem sz29 : Sz Try.prog 29 32 := sz_of (by kernel_rfl)
def zl29 : List Value := List.replicate 32 (.int .u8 0)
theorem zv29 : Zv Try.prog 29 (.agg zl29.toArray) := zv_of (by kernel_rfl)
theorem el29 : El Try.prog 29 32 32 := el_of (by kernel_rfl) (by decide)
theorem gd29 : Try.prog.eqGuardType Try.prog.depth 29 = false := by kernel_rfl
theorem eq29 : EqT Try.prog 2 29 (IntT .u8 32) := EqT.ints Try.underlying29 Try.underlying5 ag5 sz5
theorem ag29 : Ag Try.prog 29 true := ag_of true Try.underlying29 rfl
theorem sz30 : Sz Try.prog 30 65 := sz_of (by kernel_rfl)
def zl30 : List Value := List.replicate 64 (.int .u8 0) ++ [.bool false]
theorem zv30 : Zv Try.prog 30 (.agg zl30.toArray) := zv_of (by kernel_rfl)
theorem el30 : El Try.prog 30 65 65 := el_of (by kernel_rfl) (by decide)
theorem gd30 : Try.prog.eqGuardType Try.prog.depth 30 = false := by kernel_rfl
theorem ag30 : Ag Try.prog 30 true := ag_of true Try.underlying30 rfl
theorem sz31 : Sz Try.prog 31 65 := sz_of (by kernel_rfl)
def zl31 : List Value := List.replicate 64 (.int .u8 0) ++ [.bool false]
theorem zv31 : Zv Try.prog 31 (.agg zl31.toArray) := zv_of (by kernel_rfl)
theorem el31 : El Try.prog 31 65 65 := el_of (by kernel_rfl) (by decide)
theorem gd31 : Try.prog.eqGuardType Try.prog.depth 31 = false := by kernel_rfl
theorem ag31 : Ag Try.prog 31 true := ag_of true Try.underlying31 rfl
theorem sz65 : Sz Try.prog 65 66 := sz_of (by kernel_rfl)
def zl65 : List Value := List.replicate 32 (.int .u8 0) ++ [.int .i64 0] ++ List.replicate 32 (.int .u8 0) ++ [.int .i64 0]
theorem zv65 : Zv Try.prog 65 (.agg zl65.toArray) := zv_of (by kernel_rfl)
theorem el65 : El Try.prog 65 66 80 := el_of (by kernel_rfl) (by decide)
theorem gd65 : Try.prog.eqGuardType Try.prog.depth 65 = false := by kernel_rfl
theorem ag65 : Ag Try.prog 65 true := ag_of true Try.underlying65 rfl
theorem sz66 : Sz Try.prog 66 66 := sz_of (by kernel_rfl)
def zl66 : List Value := List.replicate 32 (.int .u8 0) ++ [.int .i64 0] ++ List.replicate 32 (.int .u8 0) ++ [.int .i64 0]
theorem zv66 : Zv Try.prog 66 (.agg zl66.toArray) := zv_of (by kernel_rfl)
theorem el66 : El Try.prog 66 66 80 := el_of (by kernel_rfl) (by decide)
theorem gd66 : Try.prog.eqGuardType Try.prog.depth 66 = false := by kernel_rfl
theorem ag66 : Ag Try.prog 66 true := ag_of true Try.underlying66 rfl
theorem sz68 : Sz Try.prog 68 67 := sz_of (by kernel_rfl)
def zl68 : List Value := List.replicate 32 (.int .u8 0) ++ [.int .i64 0] ++ List.replicate 32 (.int .u8 0) ++ [.int .i64 0] ++ [.slice none 0 0]
theorem zv68 : Zv Try.prog 68 (.agg zl68.toArray) := zv_of (by kernel_rfl)
theorem el68 : El Try.prog 68 67 104 := el_of (by kernel_rfl) (by decide)
theorem ag68 : Ag Try.prog 68 true := ag_of true Try.underlying68 rfl
theorem sz69 : Sz Try.prog 69 67 := sz_of (by kernel_rfl)
def zl69 : List Value := List.replicate 32 (.int .u8 0) ++ [.int .i64 0] ++ List.replicate 32 (.int .u8 0) ++ [.int .i64 0] ++ [.slice none 0 0]
theorem zv69 : Zv Try.prog 69 (.agg zl69.toArray) := zv_of (by kernel_rfl)
theorem el69 : El Try.prog 69 67 104 := el_of (by kernel_rfl) (by decide)
theorem ag69 : Ag Try.prog 69 true := ag_of true Try.underlying69 rfl
theorem sz83 : Sz Try.prog 83 37 := sz_of (by kernel_rfl)
def zl83 : List Value := List.replicate 4 (.int .i64 0) ++ List.replicate 32 (.int .u8 0) ++ [.slice none 0 0]
theorem zv83 : Zv Try.prog 83 (.agg zl83.toArray) := zv_of (by kernel_rfl)
theorem el83 : El Try.prog 83 37 88 := el_of (by kernel_rfl) (by decide)
theorem ag83 : Ag Try.prog 83 true := ag_of true Try.underlying83 rfl
theorem sz84 : Sz Try.prog 84 37 := sz_of (by kernel_rfl)
def zl84 : List Value := List.replicate 4 (.int .i64 0) ++ List.replicate 32 (.int .u8 0) ++ [.slice none 0 0]
theorem zv84 : Zv Try.prog 84 (.agg zl84.toArray) := zv_of (by kernel_rfl)
theorem el84 : El Try.prog 84 37 88 := el_of (by kernel_rfl) (by decide)
theorem ag84 : Ag Try.prog 84 true := ag_of true Try.underlying84 rfl
theorem sz86 : Sz Try.prog 86 40 := sz_of (by kernel_rfl)
def zl86 : List Value := [.slice none 0 0, .slice none 0 0] ++ List.replicate 4 (.int .i64 0) ++ List.replicate 32 (.int .u8 0) ++ [.slice none 0 0, .slice none 0 0]
theorem zv86 : Zv Try.prog 86 (.agg zl86.toArray) := zv_of (by kernel_rfl)
theorem el86 : El Try.prog 86 40 160 := el_of (by kernel_rfl) (by decide)
theorem ag86 : Ag Try.prog 86 true := ag_of true Try.underlying86 rfl
theorem sz87 : Sz Try.prog 87 40 := sz_of (by kernel_rfl)
def zl87 : List Value := [.slice none 0 0, .slice none 0 0] ++ List.replicate 4 (.int .i64 0) ++ List.replicate 32 (.int .u8 0) ++ [.slice none 0 0, .slice none 0 0]
theorem zv87 : Zv Try.prog 87 (.agg zl87.toArray) := zv_of (by kernel_rfl)
theorem el87 : El Try.prog 87 40 160 := el_of (by kernel_rfl) (by decide)
theorem ag87 : Ag Try.prog 87 true := ag_of true Try.underlying87 rfl
theorem sz97 : Sz Try.prog 97 1 := sz_of (by kernel_rfl)
def zl97 : List Value := [.slice none 0 0]
theorem zv97 : Zv Try.prog 97 (.agg zl97.toArray) := zv_of (by kernel_rfl)
theorem el97 : El Try.prog 97 1 24 := el_of (by kernel_rfl) (by decide)
theorem ag97 : Ag Try.prog 97 true := ag_of true Try.underlying97 rfl
theorem sz98 : Sz Try.prog 98 1 := sz_of (by kernel_rfl)
def zl98 : List Value := [.slice none 0 0]
theorem zv98 : Zv Try.prog 98 (.agg zl98.toArray) := zv_of (by kernel_rfl)
theorem el98 : El Try.prog 98 1 24 := el_of (by kernel_rfl) (by decide)
theorem ag98 : Ag Try.prog 98 true := ag_of true Try.underlying98 rfl
theorem sz110 : Sz Try.prog 110 67 := sz_of (by kernel_rfl)
def zl110 : List Value := [.int .i64 0, .int .i64 0, .int .i64 0] ++ List.replicate 64 (.int .u8 0)
theorem zv110 : Zv Try.prog 110 (.agg zl110.toArray) := zv_of (by kernel_rfl)
theorem el110 : El Try.prog 110 67 88 := el_of (by kernel_rfl) (by decide)
theorem gd110 : Try.prog.eqGuardType Try.prog.depth 110 = false := by kernel_rfl
theorem ag110 : Ag Try.prog 110 true := ag_of true Try.underlying110 rfl
theorem sz111 : Sz Try.prog 111 67 := sz_of (by kernel_rfl)
def zl111 : List Value := [.int .i64 0, .int .i64 0, .int .i64 0] ++ List.replicate 64 (.int .u8 0)
theorem zv111 : Zv Try.prog 111 (.agg zl111.toArray) := zv_of (by kernel_rfl)
theorem el111 : El Try.prog 111 67 88 := el_of (by kernel_rfl) (by decide)
theorem gd111 : Try.prog.eqGuardType Try.prog.depth 111 = false := by kernel_rfl
theorem ag111 : Ag Try.prog 111 true := ag_of true Try.underlying111 rfl
theorem sz114 : Sz Try.prog 114 68 := sz_of (by kernel_rfl)
def zl114 : List Value := [.int .i64 0, .int .i64 0, .int .i64 0] ++ List.replicate 64 (.int .u8 0) ++ [.slice none 0 0]
theorem zv114 : Zv Try.prog 114 (.agg zl114.toArray) := zv_of (by kernel_rfl)
theorem el114 : El Try.prog 114 68 112 := el_of (by kernel_rfl) (by decide)
theorem ag114 : Ag Try.prog 114 true := ag_of true Try.underlying114 rfl
theorem sz115 : Sz Try.prog 115 68 := sz_of (by kernel_rfl)
def zl115 : List Value := [.int .i64 0, .int .i64 0, .int .i64 0] ++ List.replicate 64 (.int .u8 0) ++ [.slice none 0 0]
theorem zv115 : Zv Try.prog 115 (.agg zl115.toArray) := zv_of (by kernel_rfl)
theorem el115 : El Try.prog 115 68 112 := el_of (by kernel_rfl) (by decide)
theorem ag115 : Ag Try.prog 115 true := ag_of true Try.underlying115 rfl
theorem sz126 : Sz Try.prog 126 34 := sz_of (by kernel_rfl)
def zl126 : List Value := List.replicate 32 (.int .u8 0) ++ [.slice none 0 0] ++ [.int .i64 0]
theorem zv126 : Zv Try.prog 126 (.agg zl126.toArray) := zv_of (by kernel_rfl)
theorem el126 : El Try.prog 126 34 64 := el_of (by kernel_rfl) (by decide)
theorem ag126 : Ag Try.prog 126 true := ag_of true Try.underlying126 rfl
theorem sz127 : Sz Try.prog 127 34 := sz_of (by kernel_rfl)
def zl127 : List Value := List.replicate 32 (.int .u8 0) ++ [.slice none 0 0] ++ [.int .i64 0]
theorem zv127 : Zv Try.prog 127 (.agg zl127.toArray) := zv_of (by kernel_rfl)
theorem el127 : El Try.prog 127 34 64 := el_of (by kernel_rfl) (by decide)
theorem ag127 : Ag Try.prog 127 true := ag_of true Try.underlying127 rfl
theorem sz134 : Sz Try.prog 134 8 := sz_of (by kernel_rfl)
def zl134 : List Value := List.replicate 8 (.int .u32 0)
theorem zv134 : Zv Try.prog 134 (.agg zl134.toArray) := zv_of (by kernel_rfl)
theorem el134 : El Try.prog 134 8 32 := el_of (by kernel_rfl) (by decide)
theorem gd134 : Try.prog.eqGuardType Try.prog.depth 134 = false := by kernel_rfl
theorem eq134 : EqT Try.prog 2 134 (IntT .u32 8) := EqT.ints Try.underlying134 Try.underlying133 ag133 sz133
theorem ag134 : Ag Try.prog 134 true := ag_of true Try.underlying134 rfl
theorem sz135 : Sz Try.prog 135 8 := sz_of (by kernel_rfl)
def zl135 : List Value := List.replicate 8 (.int .u32 0)
theorem zv135 : Zv Try.prog 135 (.agg zl135.toArray) := zv_of (by kernel_rfl)
theorem el135 : El Try.prog 135 8 32 := el_of (by kernel_rfl) (by decide)
theorem gd135 : Try.prog.eqGuardType Try.prog.depth 135 = false := by kernel_rfl
theorem eq135 : EqT Try.prog 2 135 (IntT .u32 8) := EqT.ints Try.underlying135 Try.underlying133 ag133 sz133
theorem ag135 : Ag Try.prog 135 true := ag_of true Try.underlying135 rfl
theorem sz137 : Sz Try.prog 137 64 := sz_of (by kernel_rfl)
def zl137 : List Value := List.replicate 64 (.int .u32 0)
theorem zv137 : Zv Try.prog 137 (.agg zl137.toArray) := zv_of (by kernel_rfl)
theorem el137 : El Try.prog 137 64 256 := el_of (by kernel_rfl) (by decide)
theorem gd137 : Try.prog.eqGuardType Try.prog.depth 137 = false := by kernel_rfl
theorem eq137 : EqT Try.prog 2 137 (IntT .u32 64) := EqT.ints Try.underlying137 Try.underlying133 ag133 sz133
theorem ag137 : Ag Try.prog 137 true := ag_of true Try.underlying137 rfl
theorem sz141 : Sz Try.prog 141 33 := sz_of (by kernel_rfl)
def zl141 : List Value := List.replicate 32 (.int .u8 0) ++ [.int .i64 0]
theorem zv141 : Zv Try.prog 141 (.agg zl141.toArray) := zv_of (by kernel_rfl)
theorem el141 : El Try.prog 141 33 40 := el_of (by kernel_rfl) (by decide)
theorem gd141 : Try.prog.eqGuardType Try.prog.depth 141 = false := by kernel_rfl
theorem ag141 : Ag Try.prog 141 true := ag_of true Try.underlying141 rfl
theorem sz142 : Sz Try.prog 142 33 := sz_of (by kernel_rfl)
def zl142 : List Value := List.replicate 32 (.int .u8 0) ++ [.int .i64 0]
theorem zv142 : Zv Try.prog 142 (.agg zl142.toArray) := zv_of (by kernel_rfl)
theorem el142 : El Try.prog 142 33 40 := el_of (by kernel_rfl) (by decide)
theorem gd142 : Try.prog.eqGuardType Try.prog.depth 142 = false := by kernel_rfl
theorem ag142 : Ag Try.prog 142 true := ag_of true Try.underlying142 rfl
theorem sz143 : Sz Try.prog 143 35 := sz_of (by kernel_rfl)
def zl143 : List Value := List.replicate 32 (.int .u8 0) ++ [.int .i64 0, .int .i64 0] ++ [.slice none 0 0]
theorem zv143 : Zv Try.prog 143 (.agg zl143.toArray) := zv_of (by kernel_rfl)
theorem el143 : El Try.prog 143 35 72 := el_of (by kernel_rfl) (by decide)
theorem ag143 : Ag Try.prog 143 true := ag_of true Try.underlying143 rfl
theorem sz144 : Sz Try.prog 144 35 := sz_of (by kernel_rfl)
def zl144 : List Value := List.replicate 32 (.int .u8 0) ++ [.int .i64 0, .int .i64 0] ++ [.slice none 0 0]
theorem zv144 : Zv Try.prog 144 (.agg zl144.toArray) := zv_of (by kernel_rfl)
theorem el144 : El Try.prog 144 35 72 := el_of (by kernel_rfl) (by decide)
theorem ag144 : Ag Try.prog 144 true := ag_of true Try.underlying144 rfl
theorem sz146 : Sz Try.prog 146 2 := sz_of (by kernel_rfl)
def zl146 : List Value := [.int .i64 0] ++ [.slice none 0 0]
theorem zv146 : Zv Try.prog 146 (.agg zl146.toArray) := zv_of (by kernel_rfl)
theorem el146 : El Try.prog 146 2 32 := el_of (by kernel_rfl) (by decide)
theorem ag146 : Ag Try.prog 146 true := ag_of true Try.underlying146 rfl
theorem sz147 : Sz Try.prog 147 2 := sz_of (by kernel_rfl)
def zl147 : List Value := [.int .i64 0] ++ [.slice none 0 0]
theorem zv147 : Zv Try.prog 147 (.agg zl147.toArray) := zv_of (by kernel_rfl)
theorem el147 : El Try.prog 147 2 32 := el_of (by kernel_rfl) (by decide)
theorem ag147 : Ag Try.prog 147 true := ag_of true Try.underlying147 rfl
theorem sz148 : Sz Try.prog 148 35 := sz_of (by kernel_rfl)
def zl148 : List Value := [.slice none 0 0] ++ List.replicate 32 (.int .u8 0) ++ [.int .i64 0, .int .i64 0]
theorem zv148 : Zv Try.prog 148 (.agg zl148.toArray) := zv_of (by kernel_rfl)
theorem el148 : El Try.prog 148 35 72 := el_of (by kernel_rfl) (by decide)
theorem ag148 : Ag Try.prog 148 true := ag_of true Try.underlying148 rfl
theorem sz149 : Sz Try.prog 149 35 := sz_of (by kernel_rfl)
def zl149 : List Value := [.slice none 0 0] ++ List.replicate 32 (.int .u8 0) ++ [.int .i64 0, .int .i64 0]
theorem zv149 : Zv Try.prog 149 (.agg zl149.toArray) := zv_of (by kernel_rfl)
theorem el149 : El Try.prog 149 35 72 := el_of (by kernel_rfl) (by decide)
theorem ag149 : Ag Try.prog 149 true := ag_of true Try.underlying149 rfl
theorem sz163 : Sz Try.prog 163 2 := sz_of (by kernel_rfl)
def zl163 : List Value := [.slice none 0 0] ++ [.int .i64 0]
theorem zv163 : Zv Try.prog 163 (.agg zl163.toArray) := zv_of (by kernel_rfl)
theorem el163 : El Try.prog 163 2 32 := el_of (by kernel_rfl) (by decide)
theorem ag163 : Ag Try.prog 163 true := ag_of true Try.underlying163 rfl
theorem sz164 : Sz Try.prog 164 2 := sz_of (by kernel_rfl)
def zl164 : List Value := [.slice none 0 0] ++ [.int .i64 0]
theorem zv164 : Zv Try.prog 164 (.agg zl164.toArray) := zv_of (by kernel_rfl)
theorem el164 : El Try.prog 164 2 32 := el_of (by kernel_rfl) (by decide)
theorem ag164 : Ag Try.prog 164 true := ag_of true Try.underlying164 rfl
theorem sz180 : Sz Try.prog 180 33 := sz_of (by kernel_rfl)
def zl180 : List Value := [.int .i64 0] ++ List.replicate 32 (.int .u8 0)
theorem zv180 : Zv Try.prog 180 (.agg zl180.toArray) := zv_of (by kernel_rfl)
theorem el180 : El Try.prog 180 33 40 := el_of (by kernel_rfl) (by decide)
theorem gd180 : Try.prog.eqGuardType Try.prog.depth 180 = false := by kernel_rfl
theorem ag180 : Ag Try.prog 180 true := ag_of true Try.underlying180 rfl
theorem sz181 : Sz Try.prog 181 33 := sz_of (by kernel_rfl)
def zl181 : List Value := [.int .i64 0] ++ List.replicate 32 (.int .u8 0)
theorem zv181 : Zv Try.prog 181 (.agg zl181.toArray) := zv_of (by kernel_rfl)
theorem el181 : El Try.prog 181 33 40 := el_of (by kernel_rfl) (by decide)
theorem gd181 : Try.prog.eqGuardType Try.prog.depth 181 = false := by kernel_rfl
theorem ag181 : Ag Try.prog 181 true := ag_of true Try.underlying181 rfl
theorem nm3 : (Try.f3.name == "runtime.NumGoroutine") = false := by kernel_rfl
theorem nm4 : (Try.f4.name == "runtime.NumGoroutine") = false := by kernel_rfl
theorem nm5 : (Try.f5.name == "runtime.NumGoroutine") = false := by kernel_rfl
theorem nm6 : (Try.f6.name == "runtime.NumGoroutine") = false := by kernel_rfl
theorem nm7 : (Try.f7.name == "runtime.NumGoroutine") = false := by kernel_rfl
theorem nm8 : (Try.f8.name == "runtime.NumGoroutine") = false := by kernel_rfl
theorem nm9 : (Try.f9.name == "runtime.NumGoroutine") = false := by kernel_rfl
theorem nm10 : (Try.f10.name == "runtime.NumGoroutine") = false := by kernel_rfl
theorem nm11 : (Try.f11.name == "runtime.NumGoroutine") = false := by kernel_rfl
theorem nm12 : (Try.f12.name == "runtime.NumGoroutine") = false := by kernel_rfl
theorem nm13 : (Try.f13.name == "runtime.NumGoroutine") = false := by kernel_rfl
theorem nm14 : (Try.f14.name == "runtime.NumGoroutine") = false := by kernel_rfl
theorem nm15 : (Try.f15.name == "runtime.NumGoroutine") = false := by kernel_rfl
theorem nm16 : (Try.f16.name == "runtime.NumGoroutine") = false := by kernel_rfl
theorem nm17 : (Try.f17.name == "runtime.NumGoroutine") = false := by kernel_rfl
theorem nm18 : (Try.f18.name == "runtime.NumGoroutine") = false := by kernel_rfl
theorem nm19 : (Try.f19.name == "runtime.NumGoroutine") = false := by kernel_rfl
theorem nm20 : (Try.f20.name == "runtime.NumGoroutine") = false := by kernel_rfl
theorem nm21 : (Try.f21.name == "runtime.NumGoroutine") = false := by kernel_rfl
theorem nm22 : (Try.f22.name == "runtime.NumGoroutine") = false := by kernel_rfl
theorem nm23 : (Try.f23.name == "runtime.NumGoroutine") = false := by kernel_rfl
theorem nm24 : (Try.f24.name == "runtime.NumGoroutine") = false := by kernel_rfl
theorem nm25 : (Try.f25.name == "runtime.NumGoroutine") = false := by kernel_rfl
theorem nm26 : (Try.f26.name == "runtime.NumGoroutine") = false := by kernel_rfl
theorem nm27 : (Try.f27.name == "runtime.NumGoroutine") = false := by kernel_rfl
theorem nm28 : (Try.f28.name == "runtime.NumGoroutine") = false := by kernel_rfl
theorem nm29 : (Try.f29.name == "runtime.NumGoroutine") = false := by kernel_rfl
theorem nm30 : (Try.f30.name == "runtime.NumGoroutine") = false := by kernel_rfl
theorem nm31 : (Try.f31.name == "runtime.NumGoroutine") = false := by kernel_rfl
theorem nm32 : (Try.f32.name == "runtime.NumGoroutine") = false := by kernel_rfl
theorem nm33 : (Try.f33.name == "runtime.NumGoroutine") = false := by kernel_rfl
theorem nm34 : (Try.f34.name == "runtime.NumGoroutine") = false := by kernel_rfl
theorem nm35 : (Try.f35.name == "runtime.NumGoroutine") = false := by kernel_rfl
theorem nm36 : (Try.f36.name == "runtime.NumGoroutine") = false := by kernel_rfl
theorem nm37 : (Try.f37.name == "runtime.NumGoroutine") = false := by kernel_rfl
theorem nm38 : (Try.f38.name == "runtime.NumGoroutine") = false := by kernel_rfl
theorem nm39 : (Try.f39.name == "runtime.NumGoroutine") = false := by kernel_rfl
theorem nm40 : (Try.f40.name == "runtime.NumGoroutine") = false := by kernel_rfl
theorem nm41 : (Try.f41.name == "runtime.NumGoroutine") = false := by kernel_rfl
theorem nm42 : (Try.f42.name == "runtime.NumGoroutine") = false := by kernel_rfl
theorem nm43 : (Try.f43.name == "runtime.NumGoroutine") = false := by kernel_rfl
theorem nm44 : (Try.f44.name == "runtime.NumGoroutine") = false := by kernel_rfl
theorem nm45 : (Try.f45.name == "runtime.NumGoroutine") = false := by kernel_rfl
theorem nm46 : (Try.f46.name == "runtime.NumGoroutine") = false := by kernel_rfl
theorem nm47 : (Try.f47.name == "runtime.NumGoroutine") = false := by kernel_rfl
theorem nm48 : (Try.f48.name == "runtime.NumGoroutine") = false := by kernel_rfl
theorem nm49 : (Try.f49.name == "runtime.NumGoroutine") = false := by kernel_rfl
theorem nm50 : (Try.f50.name == "runtime.NumGoroutine") = false := by kernel_rfl
theorem nm51 : (Try.f51.name == "runtime.NumGoroutine") = false := by kernel_rfl
theorem nm52 : (Try.f52.name == "runtime.NumGoroutine") = false := by kernel_rfl
theorem nm53 : (Try.f53.name == "runtime.NumGoroutine") = false := by kernel_rfl
theorem nm54 : (Try.f54.name == "runtime.NumGoroutine") = false := by kernel_rfl
theorem nm55 : (Try.f55.name == "runtime.NumGoroutine") = false := by kernel_rfl
theorem nm56 : (Try.f56.name == "runtime.NumGoroutine") = false := by kernel_rfl
theorem nm57 : (Try.f57.name == "runtime.NumGoroutine") = false := by kernel_rfl
theorem nm58 : (Try.f58.name == "runtime.NumGoroutine") = false := by kernel_rfl
theorem nm59 : (Try.f59.name == "runtime.NumGoroutine") = false := by kernel_rfl
theorem nm60 : (Try.f60.name == "runtime.NumGoroutine") = false := by kernel_rfl
theorem nm61 : (Try.f61.name == "runtime.NumGoroutine") = false := by kernel_rfl
theorem nm62 : (Try.f62.name == "runtime.NumGoroutine") = false := by kernel_rfl
theorem nm63 : (Try.f63.name == "runtime.NumGoroutine") = false := by kernel_rfl
theorem nm64 : (Try.f64.name == "runtime.NumGoroutine") = false := by kernel_rfl
theorem nm65 : (Try.f65.name == "runtime.NumGoroutine") = false := by kernel_rfl
theorem nm66 : (Try.f66.name == "runtime.NumGoroutine") = false := by kernel_rfl
theorem nm67 : (Try.f67.name == "runtime.NumGoroutine") = false := by kernel_rfl
theorem nm68 : (Try.f68.name == "runtime.NumGoroutine") = false := by kernel_rfl
theorem nm69 : (Try.f69.name == "runtime.NumGoroutine") = false := by kernel_rfl
theorem nm70 : (Try.f70.name == "runtime.NumGoroutine") = false := by kernel_rfl
theorem nm71 : (Try.f71.name == "runtime.NumGoroutine") = false := by kernel_rfl
theorem nm72 : (Try.f72.name == "runtime.NumGoroutine") = false := by kernel_rfl
theorem nm73 : (Try.f73.name == "runtime.NumGoroutine") = false := by kernel_rfl
theorem nm74 : (Try.f74.name == "runtime.NumGoroutine") = false := by kernel_rfl
theorem nm75 : (Try.f75.name == "runtime.NumGoroutine") = false := by kernel_rfl
theorem nm76 : (Try.f76.name == "runtime.NumGoroutine") = false := by kernel_rfl
theorem nm77 : (Try.f77.name == "runtime.NumGoroutine") = false := by kernel_rfl
theorem nm78 : (Try.f78.name == "runtime.NumGoroutine") = false := by kernel_rfl
theorem nm79 : (Try.f79.name == "runtime.NumGoroutine") = false := by kernel_rfl
theorem nm80 : (Try.f80.name == "runtime.NumGoroutine") = false := by kernel_rfl
theorem nm81 : (Try.f81.name == "runtime.NumGoroutine") = false := by kernel_rfl
theorem nm82 : (Try.f82.name == "runtime.NumGoroutine") = false := by kernel_rfl
theorem nm83 : (Try.f83.name == "runtime.NumGoroutine") = false := by kernel_rfl
theorem nm84 : (Try.f84.name == "runtime.NumGoroutine") = false := by kernel_rfl
theorem nm85 : (Try.f85.name == "runtime.NumGoroutine") = false := by kernel_rfl
theorem nm86 : (Try.f86.name == "runtime.NumGoroutine") = false := by kernel_rfl
theorem nm87 : (Try.f87.name == "runtime.NumGoroutine") = false := by kernel_rfl
theorem nm88 : (Try.f88.name == "runtime.NumGoroutine") = false := by kernel_rfl
theorem nm89 : (Try.f89.name == "runtime.NumGoroutine") = false := by kernel_rfl
theorem nm90 : (Try.f90.name == "runtime.NumGoroutine") = false := by kernel_rfl
theorem nm91 : (Try.f91.name == "runtime.NumGoroutine") = false := by kernel_rfl
theorem nm92 : (Try.f92.name == "runtime.NumGoroutine") = false := by kernel_rfl
theorem nm93 : (Try.f93.name == "runtime.NumGoroutine") = false := by kernel_rfl
theorem nm94 : (Try.f94.name == "runtime.NumGoroutine") = false := by kernel_rfl
theorem nm95 : (Try.f95.name == "runtime.NumGoroutine") = false := by kernel_rfl
theorem nm96 : (Try.f96.name == "runtime.NumGoroutine") = false := by kernel_rfl
theorem nm97 : (Try.f97.name == "runtime.NumGoroutine") = false := by kernel_rfl
theorem nm98 : (Try.f98.name == "runtime.NumGoroutine") = false := by kernel_rfl
theorem nm99 : (Try.f99.name == "runtime.NumGoroutine") = false := by kernel_rfl
theorem nm100 : (Try.f100.name == "runtime.NumGoroutine") = false := by kernel_rfl
theorem nm101 : (Try.f101.name == "runtime.NumGoroutine") = false := by kernel_rfl
theorem nm102 : (Try.f102.name == "runtime.NumGoroutine") = false := by kernel_rfl
theorem nm103 : (Try.f103.name == "runtime.NumGoroutine") = false := by kernel_rfl
theorem nm104 : (Try.f104.name == "runtime.NumGoroutine") = false := by kernel_rfl
theorem nm105 : (Try.f105.name == "runtime.NumGoroutine") = false := by kernel_rfl
theorem nm106 : (Try.f106.name == "runtime.NumGoroutine") = false := by kernel_rfl
theorem nm107 : (Try.f107.name == "runtime.NumGoroutine") = false := by kernel_rfl
theorem nm108 : (Try.f108.name == "runtime.NumGoroutine") = false := by kernel_rfl
theorem nm109 : (Try.f109.name == "runtime.NumGoroutine") = false := by kernel_rfl
theorem nm110 : (Try.f110.name == "runtime.NumGoroutine") = false := by kernel_rfl
theorem nm111 : (Try.f111.name == "runtime.NumGoroutine") = false := by kernel_rfl
theorem nm112 : (Try.f112.name == "runtime.NumGoroutine") = false := by kernel_rfl
theorem nm113 : (Try.f113.name == "runtime.NumGoroutine") = false := by kernel_rfl
theorem nm114 : (Try.f114.name == "runtime.NumGoroutine") = false := by kernel_rfl
theorem mixed : Try.prog.follows .mixedOrders = true := by kernel_rfl
end Go.Proofs.Ytdhfiamgmokfbaa
