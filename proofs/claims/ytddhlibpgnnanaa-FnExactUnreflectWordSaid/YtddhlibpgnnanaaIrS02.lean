import Derived.Test.YtddhlibpgnnanaaCatFun
namespace Go.Cat
/-- loop.example/g03401/spec.IsDyck -/
def ir_spec_IsDyck : IF := ⟨1, 9, [1],
 (.seq (.reg [⟨[], [], .cs .v (.b false)⟩] [some 0, none, none, none, none, none, none, none, none])
 ((.seq (.reg [⟨[], [], .cs .v (.n 0)⟩] [some 0, none, some 9, none, none, none, none, none, none])
 ((.seq ((.seq (.reg [⟨[], [], .cs .v (.n 0)⟩] [some 0, none, some 2, some 9, none, none, none, none, none])
 (.block 0 (.loop ((.seq ((.seq (.reg [⟨[], [], .nop⟩, ⟨[], [], .nop⟩, ⟨[], [], .sn (.e 0)⟩, ⟨[], [], .bi .lss (.e 3) (.e 9)⟩] [some 0, none, some 2, some 3, some 10, none, none, none, none])
   (.cond 4 (.skip) (.exit 0))))
   ((.seq (.block 1 ((.seq ((.seq (.reg [⟨[], [], .nop⟩, ⟨[], [], .nop⟩, ⟨[], [], .sx (.e 0) (.e 3)⟩] [some 0, none, some 2, some 3, none, some 9, none, none, none])
    (.block 2 ((.seq (.reg [⟨[], [], .bi .eql (.e 5) (.c (.y 117))⟩, ⟨[], [], .nop⟩] [some 0, none, some 2, some 3, none, some 5, some 9, none, none])
     (.cond 6 (.reg [⟨[], [], .nop⟩, ⟨[], [], .bi .add (.e 2) (.c (.n 1))⟩, ⟨[], [], .nop⟩] [some 0, none, some 9, some 3, none, none, none, none, none]) ((.seq (.reg [⟨[], [], .bi .eql (.e 5) (.c (.y 100))⟩, ⟨[], [], .nop⟩] [some 0, none, some 2, some 3, none, none, none, some 9, none])
      (.cond 7 (.reg [⟨[], [], .nop⟩, ⟨[], [], .bi .sub (.e 2) (.c (.n 1))⟩, ⟨[], [], .nop⟩] [some 0, none, some 9, some 3, none, none, none, none, none]) ((.seq (.reg [⟨[], [], .cs .v (.b false)⟩] [none, some 9, none, none, none, none, none, none, none])
       (.ret))))))))))))
    ((.seq (.reg [⟨[], [], .nop⟩, ⟨[], [], .bi .lss (.e 2) (.c (.n 0))⟩] [some 0, none, some 2, some 3, none, none, none, none, some 9])
    (.cond 8 ((.seq (.reg [⟨[], [], .cs .v (.b false)⟩] [none, some 9, none, none, none, none, none, none, none])
     (.ret))) (.skip)))))))
   (.reg [⟨[], [], .nop⟩, ⟨[], [], .bi .add (.e 3) (.c (.n 1))⟩, ⟨[], [], .nop⟩] [some 0, none, some 2, some 9, none, none, none, none, none])))))))))
 ((.seq (.reg [⟨[], [], .nop⟩, ⟨[], [], .bi .eql (.e 2) (.c (.n 0))⟩, ⟨[], [], .nop⟩, ⟨[], [(9, true)], .cy (.e 0)⟩, ⟨[], [(9, true)], .sn (.e 10)⟩, ⟨[], [(9, true)], .bi .leq (.e 11) (.c (.n 16))⟩, ⟨[], [], .pk (.e 9) (.e 12) (.c (.b false))⟩, ⟨[], [], .nop⟩] [none, some 13, none, none, none, none, none, none, none])
 (.ret))))))))⟩

end Go.Cat
