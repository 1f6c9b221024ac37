import Derived.Test.YtddhlibpgnnanaaCatFun
namespace Go.Cat
/-- cmp.Less[int] -/
def ir_cmp_Less_int_ : IF := ⟨2, 3, [2],
 (.seq (.reg [⟨[], [], .cs .v (.b false)⟩] [some 0, some 1, none])
 ((.seq (.reg [⟨[], [], .nop⟩, ⟨[], [], .ca 211 [(.e 0)] 1⟩, ⟨[], [], .nop⟩, ⟨[], [(3, true)], .cy (.e 1)⟩, ⟨[], [(3, true)], .ca 211 [(.e 4)] 1⟩, ⟨[], [(3, true)], .un .not (.e 5)⟩, ⟨[], [], .pk (.e 3) (.e 6) (.c (.b false))⟩, ⟨[], [], .nop⟩, ⟨[], [(7, false)], .cy (.e 0)⟩, ⟨[], [(7, false)], .cy (.e 1)⟩, ⟨[], [(7, false)], .bi .lss (.e 8) (.e 9)⟩, ⟨[], [], .pk (.e 7) (.c (.b true)) (.e 10)⟩, ⟨[], [], .nop⟩] [none, none, some 11])
 (.ret))))⟩

/-- cmp.isNaN[int] -/
def ir_cmp_isNaN_int_ : IF := ⟨1, 2, [1],
 (.seq (.reg [⟨[], [], .cs .v (.b false)⟩] [some 0, none])
 ((.seq (.reg [⟨[], [], .nop⟩, ⟨[], [], .nop⟩, ⟨[], [], .bi .neq (.e 0) (.e 0)⟩, ⟨[], [], .nop⟩] [none, some 2])
 (.ret))))⟩

/-- slices.Contains[[]int,int] -/
def ir_slices_Contains___int_int_ : IF := ⟨2, 3, [2],
 (.seq (.reg [⟨[], [], .cs .v (.b false)⟩] [some 0, some 1, none])
 ((.seq (.reg [⟨[], [], .nop⟩, ⟨[], [], .nop⟩, ⟨[], [], .ca 179 [(.e 0), (.e 1)] 1⟩, ⟨[], [], .bi .geq (.e 3) (.c (.n 0))⟩, ⟨[], [], .nop⟩] [none, none, some 4])
 (.ret))))⟩

/-- slices.Equal[[]string,string] -/
def ir_slices_Equal___string_string_ : IF := ⟨2, 9, [2],
 (.seq (.reg [⟨[], [], .cs .v (.b false)⟩] [some 0, some 1, none, none, none, none, none, none, none])
 ((.seq ((.seq (.reg [⟨[], [], .nop⟩, ⟨[], [], .ln (.e 0) []⟩, ⟨[], [], .nop⟩, ⟨[], [], .ln (.e 1) []⟩, ⟨[], [], .bi .neq (.e 9) (.e 10)⟩] [some 0, some 1, none, none, some 11, none, none, none, none])
 (.cond 4 ((.seq (.reg [⟨[], [], .cs .v (.b false)⟩] [none, none, some 9, none, none, none, none, none, none])
  (.ret))) (.skip))))
 ((.seq ((.seq (.reg [⟨[], [], .nop⟩, ⟨[], [], .ln (.e 0) []⟩, ⟨[], [], .cs .v (.n 0)⟩] [some 0, some 1, none, none, none, some 9, some 10, none, none])
 (.block 0 (.loop ((.seq (.reg [⟨[], [], .bi .lss (.e 6) (.e 5)⟩] [some 0, some 1, none, none, none, some 5, some 6, some 9, none])
   ((.seq (.cond 7 (.skip) (.exit 0))
   ((.seq (.block 1 ((.seq (.reg [⟨[], [], .nop⟩, ⟨[], [], .nop⟩] [some 0, some 1, none, some 6, none, some 5, some 6, none, none])
    ((.seq (.reg [⟨[], [], .nop⟩, ⟨[], [], .nop⟩, ⟨[], [], .iy (.e 0) (.e 3)⟩, ⟨[], [], .nop⟩, ⟨[], [], .nop⟩, ⟨[], [], .nop⟩, ⟨[], [], .iy (.e 1) (.e 3)⟩, ⟨[], [], .nop⟩, ⟨[], [], .bi .neq (.e 9) (.e 10)⟩] [some 0, some 1, none, none, none, some 5, some 6, none, some 11])
    (.cond 8 ((.seq (.reg [⟨[], [], .cs .v (.b false)⟩] [none, none, some 9, none, none, none, none, none, none])
     (.ret))) (.skip)))))))
   (.reg [⟨[], [], .bi .add (.e 6) (.c (.n 1))⟩, ⟨[], [], .nop⟩] [some 0, some 1, none, none, none, some 5, some 9, none, none])))))))))))
 ((.seq (.reg [⟨[], [], .cs .v (.b true)⟩] [none, none, some 9, none, none, none, none, none, none])
 (.ret))))))))⟩

/-- slices.Index[[]int,int] -/
def ir_slices_Index___int_int_ : IF := ⟨2, 8, [2],
 (.seq (.reg [⟨[], [], .cs .v (.n 0)⟩] [some 0, some 1, none, none, none, none, none, none])
 ((.seq ((.seq (.reg [⟨[], [], .nop⟩, ⟨[], [], .ln (.e 0) []⟩, ⟨[], [], .cs .v (.n 0)⟩] [some 0, some 1, none, none, some 8, some 9, none, none])
 (.block 0 (.loop ((.seq (.reg [⟨[], [], .bi .lss (.e 5) (.e 4)⟩] [some 0, some 1, none, none, some 4, some 5, some 8, none])
   ((.seq (.cond 6 (.skip) (.exit 0))
   ((.seq (.block 1 ((.seq (.reg [⟨[], [], .nop⟩, ⟨[], [], .nop⟩] [some 0, some 1, none, some 5, some 4, some 5, none, none])
    ((.seq (.reg [⟨[], [], .nop⟩, ⟨[], [], .nop⟩, ⟨[], [], .nop⟩, ⟨[], [], .iy (.e 0) (.e 3)⟩, ⟨[], [], .nop⟩, ⟨[], [], .bi .eql (.e 1) (.e 8)⟩] [some 0, some 1, none, some 3, some 4, some 5, none, some 9])
    (.cond 7 ((.seq (.reg [⟨[], [], .nop⟩, ⟨[], [], .nop⟩] [none, none, some 3, none, none, none, none, none])
     (.ret))) (.skip)))))))
   (.reg [⟨[], [], .bi .add (.e 5) (.c (.n 1))⟩, ⟨[], [], .nop⟩] [some 0, some 1, none, none, some 4, some 8, none, none])))))))))))
 ((.seq (.reg [⟨[], [], .cs .v (.n (-1))⟩] [none, none, some 8, none, none, none, none, none])
 (.ret))))))⟩

/-- slices.IsSorted[[]int,int] -/
def ir_slices_IsSorted___int_int_ : IF := ⟨1, 5, [1],
 (.seq (.reg [⟨[], [], .cs .v (.b false)⟩] [some 0, none, none, none, none])
 ((.seq ((.seq (.reg [⟨[], [], .nop⟩, ⟨[], [], .ln (.e 0) []⟩, ⟨[], [], .bi .sub (.e 5) (.c (.n 1))⟩, ⟨[], [], .nop⟩] [some 0, none, some 6, none, none])
 (.block 0 (.loop ((.seq ((.seq (.reg [⟨[], [], .nop⟩, ⟨[], [], .bi .gtr (.e 2) (.c (.n 0))⟩] [some 0, none, some 2, some 5, none])
   (.cond 3 (.skip) (.exit 0))))
   ((.seq (.block 1 ((.seq (.reg [⟨[], [], .nop⟩, ⟨[], [], .nop⟩, ⟨[], [], .iy (.e 0) (.e 2)⟩, ⟨[], [], .nop⟩, ⟨[], [], .nop⟩, ⟨[], [], .nop⟩, ⟨[], [], .bi .sub (.e 2) (.c (.n 1))⟩, ⟨[], [], .iy (.e 0) (.e 6)⟩, ⟨[], [], .nop⟩, ⟨[], [], .ca 203 [(.e 5), (.e 7)] 1⟩] [some 0, none, some 2, none, some 8])
    (.cond 4 ((.seq (.reg [⟨[], [], .cs .v (.b false)⟩] [none, some 5, none, none, none])
     (.ret))) (.skip)))))
   (.reg [⟨[], [], .nop⟩, ⟨[], [], .bi .sub (.e 2) (.c (.n 1))⟩, ⟨[], [], .nop⟩] [some 0, none, some 5, none, none])))))))))
 ((.seq (.reg [⟨[], [], .cs .v (.b true)⟩] [none, some 5, none, none, none])
 (.ret))))))⟩

/-- slices.Reverse[[]int,int] -/
def ir_slices_Reverse___int_int_ : IF := ⟨1, 4, [0],
 (.seq (.reg [⟨[], [], .nop⟩, ⟨[], [], .ln (.e 0) []⟩, ⟨[], [], .bi .sub (.e 4) (.c (.n 1))⟩, ⟨[], [], .cs .v (.n 0)⟩, ⟨[], [], .nop⟩] [some 0, some 6, some 5, none])
 (.block 0 (.loop ((.seq ((.seq (.reg [⟨[], [], .nop⟩, ⟨[], [], .nop⟩, ⟨[], [], .bi .lss (.e 1) (.e 2)⟩] [some 0, some 1, some 2, some 4])
   (.cond 3 (.skip) (.exit 0))))
   ((.seq (.block 1 (.reg [⟨[], [], .nop⟩, ⟨[], [], .nop⟩, ⟨[], [], .nop⟩, ⟨[], [], .nop⟩, ⟨[], [], .nop⟩, ⟨[], [], .nop⟩, ⟨[], [], .ix (.e 0) [] (.e 2)⟩, ⟨[], [], .nop⟩, ⟨[], [], .nop⟩, ⟨[], [], .nop⟩, ⟨[], [], .ix (.e 0) [] (.e 1)⟩, ⟨[], [], .nop⟩, ⟨[], [], .ix (.e 0) [] (.e 1)⟩, ⟨[], [], .up 0 [.e 1] (.e 4)⟩, ⟨[], [], .ix (.e 7) [] (.e 2)⟩, ⟨[], [], .up 7 [.e 2] (.e 5)⟩] [some 9, some 1, some 2, none]))
   (.reg [⟨[], [], .nop⟩, ⟨[], [], .bi .add (.e 1) (.c (.n 1))⟩, ⟨[], [], .nop⟩, ⟨[], [], .bi .sub (.e 2) (.c (.n 1))⟩, ⟨[], [], .nop⟩, ⟨[], [], .nop⟩] [some 0, some 4, some 5, none]))))))))⟩

end Go.Cat
