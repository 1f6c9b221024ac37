import Derived.Test.YtddhlibpgnnanaaCatFun
namespace Go.Cat
/-- loop.example/g03401/spec.CatalanNumber -/
def ir_spec_CatalanNumber : IF := ⟨1, 3, [1],
 (.seq (.reg [⟨[], [], .cs .v (.n 0)⟩] [some 0, none, none])
 ((.seq ((.seq (.reg [⟨[], [], .nop⟩, ⟨[], [], .ca 22 [(.e 0), (.c (.n 0)), (.c (.n 15))] 1⟩, ⟨[], [], .un .not (.e 3)⟩] [some 0, none, some 4])
 (.cond 2 ((.seq (.reg [⟨[], [], .cs .v (.n (-1))⟩] [none, some 3, none])
  (.ret))) (.skip))))
 ((.seq (.reg [⟨[], [], .nop⟩, ⟨[], [], .nop⟩, ⟨[], [], .ca 84 [(.e 0), (.e 0)] 1⟩, ⟨[], [], .nop⟩] [none, some 3, none])
 (.ret))))))⟩

/-- loop.example/g03401/spec.l3Binomial -/
def ir_spec_l3Binomial : IF := ⟨2, 6, [2],
 (.seq (.reg [⟨[], [], .cs .v (.n 0)⟩] [some 0, some 1, none, none, none, none])
 ((.seq (.reg [⟨[], [], .cs .v (.n 1)⟩] [some 0, some 1, none, some 6, none, none])
 ((.seq ((.seq (.reg [⟨[], [], .cs .v (.n 0)⟩] [some 0, some 1, none, some 3, some 6, none])
 (.block 0 (.loop ((.seq ((.seq (.reg [⟨[], [], .nop⟩, ⟨[], [], .nop⟩, ⟨[], [], .bi .lss (.e 4) (.e 1)⟩] [some 0, some 1, none, some 3, some 4, some 6])
   (.cond 5 (.skip) (.exit 0))))
   ((.seq (.block 1 (.reg [⟨[], [], .nop⟩, ⟨[], [], .nop⟩, ⟨[], [], .nop⟩, ⟨[], [], .bi .sub (.e 0) (.e 4)⟩, ⟨[], [], .bi .mul (.e 3) (.e 6)⟩, ⟨[], [], .nop⟩, ⟨[], [], .bi .add (.e 4) (.c (.n 1))⟩, ⟨[], [], .bi .quo (.e 7) (.e 8)⟩, ⟨[], [], .nop⟩] [some 0, some 1, none, some 9, some 4, none]))
   (.reg [⟨[], [], .nop⟩, ⟨[], [], .bi .add (.e 4) (.c (.n 1))⟩, ⟨[], [], .nop⟩] [some 0, some 1, none, some 3, some 6, none])))))))))
 ((.seq (.reg [⟨[], [], .nop⟩, ⟨[], [], .nop⟩] [none, none, some 3, none, none, none])
 (.ret))))))))⟩

/-- loop.example/g03401/spec.l3Ways -/
def ir_spec_l3Ways : IF := ⟨2, 10, [2],
 (.seq (.reg [⟨[], [], .cs .v (.n 0)⟩] [some 0, some 1, none, none, none, none, none, none, none, none])
 ((.seq (.reg [⟨[], [], .li (.o (.o .v)) []⟩, ⟨[], [], .nop⟩] [some 0, some 1, none, some 10, none, none, none, none, none, none])
 ((.seq ((.seq (.reg [⟨[], [], .cs .v (.n 0)⟩] [some 0, some 1, none, some 3, some 10, none, none, none, none, none])
 (.block 0 (.loop ((.seq ((.seq (.reg [⟨[], [], .nop⟩, ⟨[], [], .nop⟩, ⟨[], [], .bi .leq (.e 4) (.e 0)⟩] [some 0, some 1, none, some 3, some 4, none, some 10, none, none, none])
   (.cond 6 (.skip) (.exit 0))))
   ((.seq (.block 1 ((.seq (.reg [⟨[], [], .nop⟩, ⟨[], [], .nop⟩, ⟨[], [], .bi .add (.e 1) (.c (.n 1))⟩, ⟨[], [], .mk (.n 0) (.e 10) (.e 10)⟩, ⟨[], [], .li (.o (.o .v)) [(.e 11)]⟩, ⟨[], [], .ap false (.e 3) (.e 12)⟩, ⟨[], [], .nop⟩] [some 0, some 1, none, some 13, some 4, none, none, none, none, none])
    ((.seq (.reg [⟨[], [], .nop⟩, ⟨[], [], .nop⟩] [some 0, some 1, none, some 3, some 4, some 4, none, none, none, none])
    (.block 2 (.loop ((.seq ((.seq (.reg [⟨[], [], .nop⟩, ⟨[], [], .nop⟩, ⟨[], [], .bi .leq (.e 5) (.e 1)⟩] [some 0, some 1, none, some 3, some 4, some 5, none, some 10, none, none])
      (.cond 7 (.skip) (.exit 2))))
      ((.seq (.block 3 (.block 4 ((.seq (.reg [⟨[], [], .nop⟩, ⟨[], [], .bi .eql (.e 4) (.c (.n 0))⟩, ⟨[], [], .nop⟩] [some 0, some 1, none, some 3, some 4, some 5, none, none, some 10, none])
        (.cond 8 (.reg [⟨[], [], .nop⟩, ⟨[], [], .nop⟩, ⟨[], [], .ix (.e 3) [] (.e 4)⟩, ⟨[], [], .nop⟩, ⟨[], [], .nop⟩, ⟨[], [], .ix (.e 3) [.e 4] (.e 5)⟩, ⟨[], [], .up 3 [.e 4, .e 5] (.c (.n 1))⟩] [some 0, some 1, none, some 12, some 4, some 5, none, none, none, none]) ((.seq (.reg [⟨[], [], .nop⟩, ⟨[], [], .nop⟩, ⟨[], [], .bi .eql (.e 5) (.e 4)⟩, ⟨[], [], .nop⟩] [some 0, some 1, none, some 3, some 4, some 5, none, none, none, some 10])
         (.cond 9 (.reg [⟨[], [], .nop⟩, ⟨[], [], .nop⟩, ⟨[], [], .ix (.e 3) [] (.e 4)⟩, ⟨[], [], .nop⟩, ⟨[], [], .nop⟩, ⟨[], [], .nop⟩, ⟨[], [], .nop⟩, ⟨[], [], .bi .sub (.e 4) (.c (.n 1))⟩, ⟨[], [], .ix (.e 3) [] (.e 11)⟩, ⟨[], [], .nop⟩, ⟨[], [], .nop⟩, ⟨[], [], .ix (.e 3) [.e 11] (.e 5)⟩, ⟨[], [], .nop⟩, ⟨[], [], .ix (.e 3) [.e 4] (.e 5)⟩, ⟨[], [], .up 3 [.e 4, .e 5] (.e 13)⟩] [some 0, some 1, none, some 15, some 4, some 5, none, none, none, none]) (.reg [⟨[], [], .nop⟩, ⟨[], [], .nop⟩, ⟨[], [], .ix (.e 3) [] (.e 4)⟩, ⟨[], [], .nop⟩, ⟨[], [], .nop⟩, ⟨[], [], .nop⟩, ⟨[], [], .nop⟩, ⟨[], [], .bi .sub (.e 4) (.c (.n 1))⟩, ⟨[], [], .ix (.e 3) [] (.e 11)⟩, ⟨[], [], .nop⟩, ⟨[], [], .nop⟩, ⟨[], [], .ix (.e 3) [.e 11] (.e 5)⟩, ⟨[], [], .nop⟩, ⟨[], [], .nop⟩, ⟨[], [], .nop⟩, ⟨[], [], .ix (.e 3) [] (.e 4)⟩, ⟨[], [], .nop⟩, ⟨[], [], .nop⟩, ⟨[], [], .bi .sub (.e 5) (.c (.n 1))⟩, ⟨[], [], .ix (.e 3) [.e 4] (.e 15)⟩, ⟨[], [], .nop⟩, ⟨[], [], .bi .add (.e 13) (.e 16)⟩, ⟨[], [], .ix (.e 3) [.e 4] (.e 5)⟩, ⟨[], [], .up 3 [.e 4, .e 5] (.e 17)⟩] [some 0, some 1, none, some 19, some 4, some 5, none, none, none, none])))))))))
      (.reg [⟨[], [], .nop⟩, ⟨[], [], .bi .add (.e 5) (.c (.n 1))⟩, ⟨[], [], .nop⟩] [some 0, some 1, none, some 3, some 4, some 10, none, none, none, none]))))))))))))
   (.reg [⟨[], [], .nop⟩, ⟨[], [], .bi .add (.e 4) (.c (.n 1))⟩, ⟨[], [], .nop⟩] [some 0, some 1, none, some 3, some 10, none, none, none, none, none])))))))))
 ((.seq (.reg [⟨[], [], .nop⟩, ⟨[], [], .nop⟩, ⟨[], [], .ix (.e 3) [] (.e 0)⟩, ⟨[], [], .nop⟩, ⟨[], [], .nop⟩, ⟨[], [], .ix (.e 3) [.e 0] (.e 1)⟩, ⟨[], [], .nop⟩, ⟨[], [], .nop⟩] [none, none, some 11, none, none, none, none, none, none, none])
 (.ret))))))))⟩

end Go.Cat
