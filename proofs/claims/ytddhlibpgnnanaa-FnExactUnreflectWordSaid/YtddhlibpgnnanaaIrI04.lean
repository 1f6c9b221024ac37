import Derived.Test.YtddhlibpgnnanaaCatFun
namespace Go.Cat
/-- loop.example/g03401/impl.exchanged -/
def ir_impl_exchanged : IF := ⟨3, 11, [3, 4],
 (.seq (.reg [⟨[], [], .cs .v (.s [])⟩, ⟨[], [], .cs .v (.b false)⟩] [some 0, some 1, some 2, none, none, none, none, none, none, none, none])
 ((.seq (.reg [⟨[], [], .li (.o .v) []⟩, ⟨[], [], .nop⟩] [some 0, some 1, some 2, none, none, some 11, none, none, none, none, none])
 ((.seq ((.seq (.reg [⟨[], [], .cs .v (.n 0)⟩] [some 0, some 1, some 2, none, none, some 5, some 11, none, none, none, none])
 (.block 0 (.loop ((.seq ((.seq (.reg [⟨[], [], .nop⟩, ⟨[], [], .nop⟩, ⟨[], [], .sn (.e 0)⟩, ⟨[], [], .bi .lss (.e 6) (.e 11)⟩] [some 0, some 1, some 2, none, none, some 5, some 6, some 12, none, none, none])
   (.cond 7 (.skip) (.exit 0))))
   ((.seq (.block 1 ((.seq (.reg [⟨[], [], .nop⟩, ⟨[], [], .nop⟩, ⟨[], [], .sx (.e 0) (.e 6)⟩] [some 0, some 1, some 2, none, none, some 5, some 6, none, some 11, none, none])
    (.block 2 ((.seq (.reg [⟨[], [], .nop⟩, ⟨[], [], .sx (.e 1) (.c (.n 0))⟩, ⟨[], [], .bi .eql (.e 8) (.e 11)⟩, ⟨[], [], .nop⟩] [some 0, some 1, some 2, none, none, some 5, some 6, none, some 8, some 12, none])
     (.cond 9 (.reg [⟨[], [], .nop⟩, ⟨[], [], .nop⟩, ⟨[], [], .sx (.e 2) (.c (.n 0))⟩, ⟨[], [], .li (.o .v) [(.e 11)]⟩, ⟨[], [], .ap false (.e 5) (.e 12)⟩, ⟨[], [], .nop⟩] [some 0, some 1, some 2, none, none, some 13, some 6, none, none, none, none]) ((.seq (.reg [⟨[], [], .nop⟩, ⟨[], [], .sx (.e 1) (.c (.n 1))⟩, ⟨[], [], .bi .eql (.e 8) (.e 11)⟩, ⟨[], [], .nop⟩] [some 0, some 1, some 2, none, none, some 5, some 6, none, none, none, some 12])
      (.cond 10 (.reg [⟨[], [], .nop⟩, ⟨[], [], .nop⟩, ⟨[], [], .sx (.e 2) (.c (.n 1))⟩, ⟨[], [], .li (.o .v) [(.e 11)]⟩, ⟨[], [], .ap false (.e 5) (.e 12)⟩, ⟨[], [], .nop⟩] [some 0, some 1, some 2, none, none, some 13, some 6, none, none, none, none]) ((.seq (.reg [⟨[], [], .cs .v (.s [])⟩, ⟨[], [], .cs .v (.b false)⟩] [none, none, none, some 11, some 12, none, none, none, none, none, none])
       (.ret)))))))))))))
   (.reg [⟨[], [], .nop⟩, ⟨[], [], .bi .add (.e 6) (.c (.n 1))⟩, ⟨[], [], .nop⟩] [some 0, some 1, some 2, none, none, some 5, some 11, none, none, none, none])))))))))
 ((.seq (.reg [⟨[], [], .nop⟩, ⟨[], [], .bs (.e 5)⟩, ⟨[], [], .nop⟩, ⟨[], [], .cs .v (.b true)⟩] [none, none, none, some 11, some 12, none, none, none, none, none, none])
 (.ret))))))))⟩

end Go.Cat
