import Derived.Test.YtddhlibpgnnanaaCatFun
namespace Go.Cat
/-- loop.example/g03401/impl.BubbleOnce -/
def ir_impl_BubbleOnce : IF := ⟨1, 8, [1, 2],
 (.seq (.reg [⟨[], [], .cs (.o .v) (.l [])⟩, ⟨[], [], .cs .v (.b false)⟩] [some 0, none, none, none, none, none, none, none])
 ((.seq ((.seq (.reg [⟨[], [], .nop⟩, ⟨[], [], .ca 74 [(.e 0)] 1⟩, ⟨[], [], .un .not (.e 8)⟩] [some 0, none, none, none, none, some 9, none, none])
 (.cond 5 ((.seq (.reg [⟨[], [], .li (.o .v) []⟩, ⟨[], [], .nop⟩, ⟨[], [], .cs .v (.b false)⟩] [none, some 8, some 9, none, none, none, none, none])
  (.ret))) (.skip))))
 ((.seq (.reg [⟨[], [], .nop⟩, ⟨[], [], .ca 75 [(.e 0)] 1⟩, ⟨[], [], .nop⟩] [none, none, none, some 8, none, none, none, none])
 ((.seq ((.seq (.reg [⟨[], [], .cs .v (.n 1)⟩] [none, none, none, some 3, some 8, none, none, none])
 (.block 0 (.loop ((.seq ((.seq (.reg [⟨[], [], .nop⟩, ⟨[], [], .nop⟩, ⟨[], [], .ln (.e 3) []⟩, ⟨[], [], .bi .lss (.e 4) (.e 8)⟩] [none, none, none, some 3, some 4, none, some 9, none])
   (.cond 6 (.skip) (.exit 0))))
   ((.seq (.block 1 ((.seq (.reg [⟨[], [], .nop⟩, ⟨[], [], .nop⟩, ⟨[], [], .bi .sub (.e 4) (.c (.n 1))⟩, ⟨[], [], .ix (.e 3) [] (.e 8)⟩, ⟨[], [], .nop⟩, ⟨[], [], .nop⟩, ⟨[], [], .nop⟩, ⟨[], [], .ix (.e 3) [] (.e 4)⟩, ⟨[], [], .nop⟩, ⟨[], [], .bi .gtr (.e 9) (.e 10)⟩] [none, none, none, some 3, some 4, none, none, some 11])
    (.cond 7 (.reg [⟨[], [], .nop⟩, ⟨[], [], .nop⟩, ⟨[], [], .bi .sub (.e 4) (.c (.n 1))⟩, ⟨[], [], .nop⟩, ⟨[], [], .nop⟩, ⟨[], [], .nop⟩, ⟨[], [], .nop⟩, ⟨[], [], .ix (.e 3) [] (.e 4)⟩, ⟨[], [], .nop⟩, ⟨[], [], .nop⟩, ⟨[], [], .nop⟩, ⟨[], [], .bi .sub (.e 4) (.c (.n 1))⟩, ⟨[], [], .ix (.e 3) [] (.e 10)⟩, ⟨[], [], .nop⟩, ⟨[], [], .ix (.e 3) [] (.e 8)⟩, ⟨[], [], .up 3 [.e 8] (.e 9)⟩, ⟨[], [], .ix (.e 13) [] (.e 4)⟩, ⟨[], [], .up 13 [.e 4] (.e 11)⟩] [none, none, none, some 15, some 4, none, none, none]) (.skip)))))
   (.reg [⟨[], [], .nop⟩, ⟨[], [], .bi .add (.e 4) (.c (.n 1))⟩, ⟨[], [], .nop⟩] [none, none, none, some 3, some 8, none, none, none])))))))))
 ((.seq (.reg [⟨[], [], .nop⟩, ⟨[], [], .nop⟩, ⟨[], [], .cs .v (.b true)⟩] [none, some 3, some 8, none, none, none, none, none])
 (.ret))))))))))⟩

/-- loop.example/g03401/impl.IsSortable -/
def ir_impl_IsSortable : IF := ⟨1, 4, [1],
 (.seq (.reg [⟨[], [], .cs .v (.b false)⟩] [some 0, none, none, none])
 ((.seq (.reg [⟨[], [], .nop⟩, ⟨[], [], .ca 62 [(.e 0)] 2⟩, ⟨[], [], .nop⟩, ⟨[], [], .nop⟩, ⟨[], [], .nop⟩, ⟨[], [], .nop⟩, ⟨[], [], .nop⟩] [none, none, some 4, some 5])
 ((.seq (.reg [⟨[], [], .nop⟩, ⟨[], [], .nop⟩, ⟨[], [(3, true)], .cy (.e 2)⟩, ⟨[], [(3, true)], .ca 131 [(.e 4)] 1⟩, ⟨[], [], .pk (.e 3) (.e 5) (.c (.b false))⟩, ⟨[], [], .nop⟩] [none, some 6, none, none])
 (.ret))))))⟩

/-- loop.example/g03401/impl.OutputOf -/
def ir_impl_OutputOf : IF := ⟨2, 11, [2, 3],
 (.seq (.reg [⟨[], [], .cs (.o .v) (.l [])⟩, ⟨[], [], .cs .v (.b false)⟩] [some 0, some 1, none, none, none, none, none, none, none, none, none])
 ((.seq (.reg [⟨[], [], .li (.o .v) []⟩, ⟨[], [], .nop⟩] [some 0, some 1, none, none, some 11, none, none, none, none, none, none])
 ((.seq ((.seq (.reg [⟨[], [], .nop⟩, ⟨[], [], .ca 67 [(.e 0)] 1⟩, ⟨[], [], .un .not (.e 11)⟩, ⟨[], [], .nop⟩, ⟨[], [(12, false)], .nop⟩, ⟨[], [(12, false)], .ca 74 [(.e 1)] 1⟩, ⟨[], [(12, false)], .un .not (.e 13)⟩, ⟨[], [], .pk (.e 12) (.c (.b true)) (.e 14)⟩, ⟨[], [], .nop⟩, ⟨[], [(15, false)], .nop⟩, ⟨[], [(15, false)], .ln (.e 1) []⟩, ⟨[], [(15, false)], .cy (.e 0)⟩, ⟨[], [(15, false)], .ca 132 [(.e 17)] 1⟩, ⟨[], [(15, false)], .bi .neq (.e 16) (.e 18)⟩, ⟨[], [], .pk (.e 15) (.c (.b true)) (.e 19)⟩] [some 0, some 1, none, none, some 4, none, none, none, some 20, none, none])
 (.cond 8 ((.seq (.reg [⟨[], [], .nop⟩, ⟨[], [], .nop⟩, ⟨[], [], .cs .v (.b false)⟩] [none, none, some 4, some 11, none, none, none, none, none, none, none])
  (.ret))) (.skip))))
 ((.seq (.reg [⟨[], [], .li (.o .v) []⟩, ⟨[], [], .nop⟩] [some 0, some 1, none, none, some 4, some 11, none, none, none, none, none])
 ((.seq (.reg [⟨[], [], .cs .v (.n 0)⟩] [some 0, some 1, none, none, some 4, some 5, some 11, none, none, none, none])
 ((.seq ((.seq (.reg [⟨[], [], .cs .v (.n 0)⟩] [some 0, some 1, none, none, some 4, some 5, some 6, some 11, none, none, none])
 (.block 0 (.loop ((.seq ((.seq (.reg [⟨[], [], .nop⟩, ⟨[], [], .nop⟩, ⟨[], [], .sn (.e 0)⟩, ⟨[], [], .bi .lss (.e 7) (.e 11)⟩] [some 0, some 1, none, none, some 4, some 5, some 6, some 7, none, some 12, none])
   (.cond 9 (.skip) (.exit 0))))
   ((.seq (.block 1 ((.seq ((.seq (.reg [⟨[], [], .nop⟩, ⟨[], [], .nop⟩, ⟨[], [], .sx (.e 0) (.e 7)⟩, ⟨[], [], .bi .eql (.e 11) (.c (.y 117))⟩] [some 0, some 1, none, none, some 4, some 5, some 6, some 7, none, none, some 12])
    (.cond 10 ((.seq (.reg [⟨[], [], .nop⟩, ⟨[], [], .nop⟩, ⟨[], [], .nop⟩, ⟨[], [], .iy (.e 1) (.e 6)⟩, ⟨[], [], .nop⟩, ⟨[], [], .li (.o .v) [(.e 11)]⟩, ⟨[], [], .ap false (.e 5) (.e 12)⟩, ⟨[], [], .nop⟩] [some 0, some 1, none, none, some 4, some 13, some 6, some 7, none, none, none])
     ((.seq (.reg [⟨[], [], .nop⟩, ⟨[], [], .bi .add (.e 6) (.c (.n 1))⟩, ⟨[], [], .nop⟩] [some 0, some 1, none, none, some 4, some 5, some 11, some 7, none, none, none])
     (.exit 1))))) (.skip))))
    ((.seq (.reg [⟨[], [], .nop⟩, ⟨[], [], .nop⟩, ⟨[], [], .nop⟩, ⟨[], [], .ln (.e 5) []⟩, ⟨[], [], .bi .sub (.e 11) (.c (.n 1))⟩, ⟨[], [], .ix (.e 5) [] (.e 12)⟩, ⟨[], [], .nop⟩, ⟨[], [], .li (.o .v) [(.e 13)]⟩, ⟨[], [], .ap false (.e 4) (.e 14)⟩, ⟨[], [], .nop⟩] [some 0, some 1, none, none, some 15, some 5, some 6, some 7, none, none, none])
    (.reg [⟨[], [], .nop⟩, ⟨[], [], .nop⟩, ⟨[], [], .ln (.e 5) []⟩, ⟨[], [], .bi .sub (.e 11) (.c (.n 1))⟩, ⟨[], [], .sb true (.e 5) none (some (.e 12))⟩, ⟨[], [], .nop⟩] [some 0, some 1, none, none, some 4, some 13, some 6, some 7, none, none, none]))))))
   (.reg [⟨[], [], .nop⟩, ⟨[], [], .bi .add (.e 7) (.c (.n 1))⟩, ⟨[], [], .nop⟩] [some 0, some 1, none, none, some 4, some 5, some 6, some 11, none, none, none])))))))))
 ((.seq (.reg [⟨[], [], .nop⟩, ⟨[], [], .nop⟩, ⟨[], [], .cs .v (.b true)⟩] [none, none, some 4, some 11, none, none, none, none, none, none, none])
 (.ret))))))))))))))⟩

/-- loop.example/g03401/impl.PassesOf -/
def ir_impl_PassesOf : IF := ⟨1, 5, [1],
 (.seq (.reg [⟨[], [], .cs .v (.n 0)⟩] [some 0, none, none, none, none])
 ((.seq ((.seq (.reg [⟨[], [], .nop⟩, ⟨[], [], .ca 74 [(.e 0)] 1⟩, ⟨[], [], .un .not (.e 5)⟩] [some 0, none, none, some 6, none])
 (.cond 3 ((.seq (.reg [⟨[], [], .cs .v (.n (-1))⟩] [none, some 5, none, none, none])
  (.ret))) (.skip))))
 ((.seq (.reg [⟨[], [], .cs .v (.n 0)⟩] [some 0, none, some 5, none, none])
 ((.seq (.block 0 (.loop ((.seq ((.seq (.reg [⟨[], [], .nop⟩, ⟨[], [], .ca 131 [(.e 0)] 1⟩, ⟨[], [], .un .not (.e 5)⟩] [some 0, none, some 2, none, some 6])
   (.cond 4 (.skip) (.exit 0))))
   (.block 1 ((.seq (.reg [⟨[], [], .nop⟩, ⟨[], [], .ca 62 [(.e 0)] 2⟩, ⟨[], [], .nop⟩, ⟨[], [], .nop⟩, ⟨[], [], .nop⟩, ⟨[], [], .nop⟩] [some 5, none, some 2, none, none])
    (.reg [⟨[], [], .nop⟩, ⟨[], [], .bi .add (.e 2) (.c (.n 1))⟩, ⟨[], [], .nop⟩] [some 0, none, some 5, none, none]))))))))
 ((.seq (.reg [⟨[], [], .nop⟩, ⟨[], [], .nop⟩] [none, some 2, none, none, none])
 (.ret))))))))))⟩

/-- loop.example/g03401/impl.PatternOf231 -/
def ir_impl_PatternOf231 : IF := ⟨1, 13, [1, 2],
 (.seq (.reg [⟨[], [], .cs (.o .v) (.l [])⟩, ⟨[], [], .cs .v (.b false)⟩] [some 0, none, none, none, none, none, none, none, none, none, none, none, none])
 ((.seq ((.seq (.reg [⟨[], [], .nop⟩, ⟨[], [], .ca 74 [(.e 0)] 1⟩, ⟨[], [], .un .not (.e 13)⟩] [some 0, none, none, none, none, none, some 14, none, none, none, none, none, none])
 (.cond 6 ((.seq (.reg [⟨[], [], .li (.o .v) []⟩, ⟨[], [], .nop⟩, ⟨[], [], .cs .v (.b false)⟩] [none, some 13, some 14, none, none, none, none, none, none, none, none, none, none])
  (.ret))) (.skip))))
 ((.seq ((.seq (.reg [⟨[], [], .nop⟩, ⟨[], [], .ln (.e 0) []⟩, ⟨[], [], .cs .v (.n 0)⟩] [some 0, none, none, none, none, none, none, some 13, some 14, none, none, none, none])
 (.block 0 (.loop ((.seq (.reg [⟨[], [], .bi .lss (.e 8) (.e 7)⟩] [some 0, none, none, none, none, none, none, some 7, some 8, some 13, none, none, none])
   ((.seq (.cond 9 (.skip) (.exit 0))
   ((.seq (.block 1 ((.seq (.reg [⟨[], [], .nop⟩, ⟨[], [], .nop⟩] [some 0, none, none, some 8, none, none, none, some 7, some 8, none, none, none, none])
    ((.seq (.reg [⟨[], [], .nop⟩, ⟨[], [], .bi .add (.e 3) (.c (.n 1))⟩, ⟨[], [], .nop⟩] [some 0, none, none, some 3, some 13, none, none, some 7, some 8, none, none, none, none])
    (.block 2 (.loop ((.seq ((.seq (.reg [⟨[], [], .nop⟩, ⟨[], [], .nop⟩, ⟨[], [], .ln (.e 0) []⟩, ⟨[], [], .bi .lss (.e 4) (.e 13)⟩] [some 0, none, none, some 3, some 4, none, none, some 7, some 8, none, some 14, none, none])
      (.cond 10 (.skip) (.exit 2))))
      ((.seq (.block 3 ((.seq (.reg [⟨[], [], .nop⟩, ⟨[], [], .bi .add (.e 4) (.c (.n 1))⟩, ⟨[], [], .nop⟩] [some 0, none, none, some 3, some 4, some 13, none, some 7, some 8, none, none, none, none])
       (.block 4 (.loop ((.seq ((.seq (.reg [⟨[], [], .nop⟩, ⟨[], [], .nop⟩, ⟨[], [], .ln (.e 0) []⟩, ⟨[], [], .bi .lss (.e 5) (.e 13)⟩] [some 0, none, none, some 3, some 4, some 5, none, some 7, some 8, none, none, some 14, none])
         (.cond 11 (.skip) (.exit 4))))
         ((.seq (.block 5 ((.seq (.reg [⟨[], [], .nop⟩, ⟨[], [], .nop⟩, ⟨[], [], .iy (.e 0) (.e 5)⟩, ⟨[], [], .nop⟩, ⟨[], [], .nop⟩, ⟨[], [], .nop⟩, ⟨[], [], .iy (.e 0) (.e 3)⟩, ⟨[], [], .nop⟩, ⟨[], [], .bi .lss (.e 13) (.e 14)⟩, ⟨[], [], .nop⟩, ⟨[], [(15, true)], .nop⟩, ⟨[], [(15, true)], .cy (.e 3)⟩, ⟨[], [(15, true)], .iy (.e 0) (.e 16)⟩, ⟨[], [(15, true)], .nop⟩, ⟨[], [(15, true)], .nop⟩, ⟨[], [(15, true)], .cy (.e 4)⟩, ⟨[], [(15, true)], .iy (.e 0) (.e 18)⟩, ⟨[], [(15, true)], .nop⟩, ⟨[], [(15, true)], .bi .lss (.e 17) (.e 19)⟩, ⟨[], [], .pk (.e 15) (.e 20) (.c (.b false))⟩] [some 0, none, none, some 3, some 4, some 5, none, some 7, some 8, none, none, none, some 21])
          (.cond 12 ((.seq (.reg [⟨[], [], .nop⟩, ⟨[], [], .nop⟩, ⟨[], [], .nop⟩, ⟨[], [], .li (.o .v) [(.e 3), (.e 4), (.e 5)]⟩, ⟨[], [], .nop⟩, ⟨[], [], .cs .v (.b true)⟩] [none, some 13, some 14, none, none, none, none, none, none, none, none, none, none])
           (.ret))) (.skip)))))
         (.reg [⟨[], [], .nop⟩, ⟨[], [], .bi .add (.e 5) (.c (.n 1))⟩, ⟨[], [], .nop⟩] [some 0, none, none, some 3, some 4, some 13, none, some 7, some 8, none, none, none, none]))))))))))
      (.reg [⟨[], [], .nop⟩, ⟨[], [], .bi .add (.e 4) (.c (.n 1))⟩, ⟨[], [], .nop⟩] [some 0, none, none, some 3, some 13, none, none, some 7, some 8, none, none, none, none]))))))))))))
   (.reg [⟨[], [], .bi .add (.e 8) (.c (.n 1))⟩, ⟨[], [], .nop⟩] [some 0, none, none, none, none, none, none, some 7, some 13, none, none, none, none])))))))))))
 ((.seq (.reg [⟨[], [], .li (.o .v) []⟩, ⟨[], [], .nop⟩, ⟨[], [], .cs .v (.b false)⟩] [none, some 13, some 14, none, none, none, none, none, none, none, none, none, none])
 (.ret))))))))⟩

/-- loop.example/g03401/impl.SortOnce -/
def ir_impl_SortOnce : IF := ⟨1, 12, [1, 2],
 (.seq (.reg [⟨[], [], .cs (.o .v) (.l [])⟩, ⟨[], [], .cs .v (.b false)⟩] [some 0, none, none, none, none, none, none, none, none, none, none, none])
 ((.seq (.reg [⟨[], [], .li (.o .v) []⟩, ⟨[], [], .nop⟩] [some 0, none, none, some 12, none, none, none, none, none, none, none, none])
 ((.seq ((.seq (.reg [⟨[], [], .nop⟩, ⟨[], [], .ca 74 [(.e 0)] 1⟩, ⟨[], [], .un .not (.e 12)⟩] [some 0, none, none, some 3, none, none, some 13, none, none, none, none, none])
 (.cond 6 ((.seq (.reg [⟨[], [], .nop⟩, ⟨[], [], .nop⟩, ⟨[], [], .cs .v (.b false)⟩] [none, some 3, some 12, none, none, none, none, none, none, none, none, none])
  (.ret))) (.skip))))
 ((.seq (.reg [⟨[], [], .li (.o .v) []⟩, ⟨[], [], .nop⟩] [some 0, none, none, some 3, some 12, none, none, none, none, none, none, none])
 ((.seq ((.seq (.reg [⟨[], [], .nop⟩, ⟨[], [], .ln (.e 0) []⟩, ⟨[], [], .cs .v (.n 0)⟩] [none, none, none, some 3, some 4, none, none, some 0, some 12, some 13, none, none])
 (.block 0 (.loop ((.seq (.reg [⟨[], [], .bi .lss (.e 9) (.e 8)⟩] [none, none, none, some 3, some 4, none, none, some 7, some 8, some 9, some 12, none])
   ((.seq (.cond 10 (.skip) (.exit 0))
   ((.seq (.block 1 ((.seq (.reg [⟨[], [], .iy (.e 7) (.e 9)⟩, ⟨[], [], .nop⟩, ⟨[], [], .nop⟩] [none, none, none, some 3, some 4, some 12, none, some 7, some 8, some 9, none, none])
    ((.seq (.block 2 (.loop ((.seq ((.seq (.reg [⟨[], [], .nop⟩, ⟨[], [], .ln (.e 4) []⟩, ⟨[], [], .bi .gtr (.e 12) (.c (.n 0))⟩, ⟨[], [], .nop⟩, ⟨[], [(13, true)], .nop⟩, ⟨[], [(13, true)], .nop⟩, ⟨[], [(13, true)], .ln (.e 4) []⟩, ⟨[], [(13, true)], .bi .sub (.e 14) (.c (.n 1))⟩, ⟨[], [(13, true)], .ix (.e 4) [] (.e 15)⟩, ⟨[], [(13, true)], .nop⟩, ⟨[], [(13, true)], .cy (.e 5)⟩, ⟨[], [(13, true)], .bi .lss (.e 16) (.e 17)⟩, ⟨[], [], .pk (.e 13) (.e 18) (.c (.b false))⟩] [none, none, none, some 3, some 4, some 5, none, some 7, some 8, some 9, none, some 19])
      (.cond 11 (.skip) (.exit 2))))
      (.block 3 ((.seq (.reg [⟨[], [], .nop⟩, ⟨[], [], .nop⟩, ⟨[], [], .nop⟩, ⟨[], [], .ln (.e 4) []⟩, ⟨[], [], .bi .sub (.e 12) (.c (.n 1))⟩, ⟨[], [], .ix (.e 4) [] (.e 13)⟩, ⟨[], [], .nop⟩, ⟨[], [], .li (.o .v) [(.e 14)]⟩, ⟨[], [], .ap false (.e 3) (.e 15)⟩, ⟨[], [], .nop⟩] [none, none, none, some 16, some 4, some 5, none, some 7, some 8, some 9, none, none])
       (.reg [⟨[], [], .nop⟩, ⟨[], [], .nop⟩, ⟨[], [], .ln (.e 4) []⟩, ⟨[], [], .bi .sub (.e 12) (.c (.n 1))⟩, ⟨[], [], .sb true (.e 4) none (some (.e 13))⟩, ⟨[], [], .nop⟩] [none, none, none, some 3, some 14, some 5, none, some 7, some 8, some 9, none, none]))))))))
    (.reg [⟨[], [], .nop⟩, ⟨[], [], .nop⟩, ⟨[], [], .li (.o .v) [(.e 5)]⟩, ⟨[], [], .ap false (.e 4) (.e 12)⟩, ⟨[], [], .nop⟩] [none, none, none, some 3, some 13, none, none, some 7, some 8, some 9, none, none]))))))
   (.reg [⟨[], [], .bi .add (.e 9) (.c (.n 1))⟩, ⟨[], [], .nop⟩] [none, none, none, some 3, some 4, none, none, some 7, some 8, some 12, none, none])))))))))))
 ((.seq (.reg [⟨[], [], .nop⟩, ⟨[], [], .ca 81 [(.e 4)] 1⟩] [none, none, none, some 3, some 12, none, none, none, none, none, none, none])
 ((.seq (.reg [⟨[], [], .nop⟩, ⟨[], [], .nop⟩, ⟨[], [], .ap false (.e 3) (.e 4)⟩, ⟨[], [], .nop⟩, ⟨[], [], .cs .v (.b true)⟩] [none, some 12, some 13, none, none, none, none, none, none, none, none, none])
 (.ret))))))))))))))⟩

/-- loop.example/g03401/impl.ascends -/
def ir_impl_ascends : IF := ⟨1, 2, [1],
 (.seq (.reg [⟨[], [], .cs .v (.b false)⟩] [some 0, none])
 ((.seq (.reg [⟨[], [], .nop⟩, ⟨[], [], .ca 178 [(.e 0)] 1⟩, ⟨[], [], .nop⟩] [none, some 2])
 (.ret))))⟩

end Go.Cat
