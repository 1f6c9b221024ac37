/-
  Texts of the little language.
-/
import Derived.Test.YtjofmcgipblojaaCatThree
namespace Go.Cat
/-- (*loop.example/g03401/impl.tree).nodes -/
def ir_impl_tree_nodes : IF := ⟨[], 1, 3, [1],
 (.seq (.reg [⟨[], [], .cs .v (.n 0)⟩] [some 0, none, none])
 ((.seq ((.seq (.reg [⟨[], [], .nop⟩, ⟨[], [], .nz true (.e 0)⟩] [some 0, none, some 3])
 (.cond 2 ((.seq (.reg [⟨[], [], .cs .v (.n 0)⟩] [none, some 3, none])
  (.ret))) (.skip))))
 ((.seq (.reg [⟨[], [], .nop⟩, ⟨[], [], .nn (.e 0)⟩, ⟨[], [], .fp false (.e 3) 0⟩, ⟨[], [], .nop⟩, ⟨[], [], .ca 197 [(.e 4)] 1⟩, ⟨[], [], .nop⟩, ⟨[], [], .nn (.e 0)⟩, ⟨[], [], .fp false (.e 6) 1⟩, ⟨[], [], .nop⟩, ⟨[], [], .ca 197 [(.e 7)] 1⟩, ⟨[], [], .bi .add (.e 5) (.e 8)⟩, ⟨[], [], .bi .add (.e 9) (.c (.n 1))⟩, ⟨[], [], .nop⟩] [none, some 10, none])
 (.ret))))))⟩

end Go.Cat

namespace Go.Cat
/-- loop.example/g03401/laws.eqClaim -/
def ir_laws_eqClaim : IF := ⟨[], 2, 12, [4],
 (.seq (.reg [⟨[], [], .bp (.e 0)⟩, ⟨[], [], .bp (.e 1)⟩, ⟨[], [], .cs .v (.b false)⟩] [none, none, some 12, some 13, none, none, none, none, none, none, none, none])
 ((.seq ((.seq (.reg [⟨[], [], .fp true (.e 2) 0⟩, ⟨[], [], .nop⟩, ⟨[], [], .fp true (.e 3) 0⟩, ⟨[], [], .nop⟩, ⟨[], [], .bi .neq (.e 12) (.e 13)⟩] [none, none, some 2, some 3, none, some 14, none, none, none, none, none, none])
 (.cond 5 ((.seq (.reg [⟨[], [], .cs .v (.b false)⟩] [none, none, none, none, some 12, none, none, none, none, none, none, none])
  (.ret))) (.skip))))
 ((.seq ((.seq (.reg [⟨[], [], .fp true (.e 2) 1⟩, ⟨[], [], .nop⟩, ⟨[], [], .fp true (.e 3) 1⟩, ⟨[], [], .nop⟩, ⟨[], [], .bi .neq (.e 12) (.e 13)⟩] [none, none, some 2, some 3, none, none, some 14, none, none, none, none, none])
 (.cond 6 ((.seq (.reg [⟨[], [], .cs .v (.b false)⟩] [none, none, none, none, some 12, none, none, none, none, none, none, none])
  (.ret))) (.skip))))
 ((.seq ((.seq (.reg [⟨[], [], .fp true (.e 2) 2⟩, ⟨[], [], .nop⟩, ⟨[], [], .fp true (.e 3) 2⟩, ⟨[], [], .nop⟩, ⟨[], [], .bi .neq (.e 12) (.e 13)⟩] [none, none, some 2, some 3, none, none, none, some 14, none, none, none, none])
 (.cond 7 ((.seq (.reg [⟨[], [], .cs .v (.b false)⟩] [none, none, none, none, some 12, none, none, none, none, none, none, none])
  (.ret))) (.skip))))
 ((.seq ((.seq (.reg [⟨[], [], .fp false (.e 2) 3⟩, ⟨[], [], .nop⟩, ⟨[], [], .fp false (.e 3) 3⟩, ⟨[], [], .nop⟩, ⟨[], [], .ca 15 [(.e 12), (.e 13)] 1⟩, ⟨[], [], .un .not (.e 14)⟩] [none, none, some 2, some 3, none, none, none, none, some 15, none, none, none])
 (.cond 8 ((.seq (.reg [⟨[], [], .cs .v (.b false)⟩] [none, none, none, none, some 12, none, none, none, none, none, none, none])
  (.ret))) (.skip))))
 ((.seq ((.seq (.reg [⟨[], [], .fp false (.e 2) 4⟩, ⟨[], [], .nop⟩, ⟨[], [], .fp false (.e 3) 4⟩, ⟨[], [], .nop⟩, ⟨[], [], .ca 44 [(.e 12), (.e 13)] 1⟩, ⟨[], [], .un .not (.e 14)⟩] [none, none, some 2, some 3, none, none, none, none, none, some 15, none, none])
 (.cond 9 ((.seq (.reg [⟨[], [], .cs .v (.b false)⟩] [none, none, none, none, some 12, none, none, none, none, none, none, none])
  (.ret))) (.skip))))
 ((.seq ((.seq (.reg [⟨[], [], .fp false (.e 2) 5⟩, ⟨[], [], .nop⟩, ⟨[], [], .fp false (.e 3) 5⟩, ⟨[], [], .nop⟩, ⟨[], [], .ca 44 [(.e 12), (.e 13)] 1⟩, ⟨[], [], .un .not (.e 14)⟩] [none, none, some 2, some 3, none, none, none, none, none, none, some 15, none])
 (.cond 10 ((.seq (.reg [⟨[], [], .cs .v (.b false)⟩] [none, none, none, none, some 12, none, none, none, none, none, none, none])
  (.ret))) (.skip))))
 ((.seq ((.seq (.reg [⟨[], [], .fp false (.e 2) 6⟩, ⟨[], [], .nop⟩, ⟨[], [], .fp false (.e 3) 6⟩, ⟨[], [], .nop⟩, ⟨[], [], .ca 155 [(.e 12), (.e 13)] 1⟩, ⟨[], [], .un .not (.e 14)⟩] [none, none, none, none, none, none, none, none, none, none, none, some 15])
 (.cond 11 ((.seq (.reg [⟨[], [], .cs .v (.b false)⟩] [none, none, none, none, some 12, none, none, none, none, none, none, none])
  (.ret))) (.skip))))
 ((.seq (.reg [⟨[], [], .cs .v (.b true)⟩] [none, none, none, none, some 12, none, none, none, none, none, none, none])
 (.ret))))))))))))))))))⟩

/-- loop.example/g03401/laws.eqIntS -/
def ir_laws_eqIntS : IF := ⟨[], 2, 7, [2],
 (.seq (.reg [⟨[], [], .cs .v (.b false)⟩] [some 0, some 1, none, none, none, none, none])
 ((.seq ((.seq (.reg [⟨[], [], .nop⟩, ⟨[], [], .ln (.e 0) []⟩, ⟨[], [], .nop⟩, ⟨[], [], .ln (.e 1) []⟩, ⟨[], [], .bi .neq (.e 7) (.e 8)⟩] [some 0, some 1, none, none, some 9, none, none])
 (.cond 4 ((.seq (.reg [⟨[], [], .cs .v (.b false)⟩] [none, none, some 7, none, none, none, none])
  (.ret))) (.skip))))
 ((.seq ((.seq (.reg [⟨[], [], .cs .v (.n 0)⟩] [some 0, some 1, none, some 7, none, none, none])
 (.block 0 (.loop ((.seq ((.seq (.reg [⟨[], [], .nop⟩, ⟨[], [], .nop⟩, ⟨[], [], .ln (.e 0) []⟩, ⟨[], [], .bi .lss (.e 3) (.e 7)⟩] [some 0, some 1, none, some 3, none, some 8, none])
   (.cond 5 (.skip) (.exit 0))))
   ((.seq (.block 1 ((.seq (.reg [⟨[], [], .nop⟩, ⟨[], [], .nop⟩, ⟨[], [], .iy (.e 0) (.e 3)⟩, ⟨[], [], .nop⟩, ⟨[], [], .nop⟩, ⟨[], [], .nop⟩, ⟨[], [], .iy (.e 1) (.e 3)⟩, ⟨[], [], .nop⟩, ⟨[], [], .bi .neq (.e 7) (.e 8)⟩] [some 0, some 1, none, some 3, none, none, some 9])
    (.cond 6 ((.seq (.reg [⟨[], [], .cs .v (.b false)⟩] [none, none, some 7, none, none, none, none])
     (.ret))) (.skip)))))
   (.reg [⟨[], [], .nop⟩, ⟨[], [], .bi .add (.e 3) (.c (.n 1))⟩, ⟨[], [], .nop⟩] [some 0, some 1, none, some 7, none, none, none])))))))))
 ((.seq (.reg [⟨[], [], .cs .v (.b true)⟩] [none, none, some 7, none, none, none, none])
 (.ret))))))))⟩

/-- loop.example/g03401/laws.eqIntSS -/
def ir_laws_eqIntSS : IF := ⟨[], 2, 7, [2],
 (.seq (.reg [⟨[], [], .cs .v (.b false)⟩] [some 0, some 1, none, none, none, none, none])
 ((.seq ((.seq (.reg [⟨[], [], .nop⟩, ⟨[], [], .ln (.e 0) []⟩, ⟨[], [], .nop⟩, ⟨[], [], .ln (.e 1) []⟩, ⟨[], [], .bi .neq (.e 7) (.e 8)⟩] [some 0, some 1, none, none, some 9, none, none])
 (.cond 4 ((.seq (.reg [⟨[], [], .cs .v (.b false)⟩] [none, none, some 7, none, none, none, none])
  (.ret))) (.skip))))
 ((.seq ((.seq (.reg [⟨[], [], .cs .v (.n 0)⟩] [some 0, some 1, none, some 7, none, none, none])
 (.block 0 (.loop ((.seq ((.seq (.reg [⟨[], [], .nop⟩, ⟨[], [], .nop⟩, ⟨[], [], .ln (.e 0) []⟩, ⟨[], [], .bi .lss (.e 3) (.e 7)⟩] [some 0, some 1, none, some 3, none, some 8, none])
   (.cond 5 (.skip) (.exit 0))))
   ((.seq (.block 1 ((.seq (.reg [⟨[], [], .nop⟩, ⟨[], [], .nop⟩, ⟨[], [], .ix (.e 0) [] (.e 3)⟩, ⟨[], [], .nop⟩, ⟨[], [], .nop⟩, ⟨[], [], .nop⟩, ⟨[], [], .ix (.e 1) [] (.e 3)⟩, ⟨[], [], .nop⟩, ⟨[], [], .ca 44 [(.e 7), (.e 8)] 1⟩, ⟨[], [], .un .not (.e 9)⟩] [some 0, some 1, none, some 3, none, none, some 10])
    (.cond 6 ((.seq (.reg [⟨[], [], .cs .v (.b false)⟩] [none, none, some 7, none, none, none, none])
     (.ret))) (.skip)))))
   (.reg [⟨[], [], .nop⟩, ⟨[], [], .bi .add (.e 3) (.c (.n 1))⟩, ⟨[], [], .nop⟩] [some 0, some 1, none, some 7, none, none, none])))))))))
 ((.seq (.reg [⟨[], [], .cs .v (.b true)⟩] [none, none, some 7, none, none, none, none])
 (.ret))))))))⟩

/-- loop.example/g03401/laws.eqStringS -/
def ir_laws_eqStringS : IF := ⟨[], 2, 7, [2],
 (.seq (.reg [⟨[], [], .cs .v (.b false)⟩] [some 0, some 1, none, none, none, none, none])
 ((.seq ((.seq (.reg [⟨[], [], .nop⟩, ⟨[], [], .ln (.e 0) []⟩, ⟨[], [], .nop⟩, ⟨[], [], .ln (.e 1) []⟩, ⟨[], [], .bi .neq (.e 7) (.e 8)⟩] [some 0, some 1, none, none, some 9, none, none])
 (.cond 4 ((.seq (.reg [⟨[], [], .cs .v (.b false)⟩] [none, none, some 7, none, none, none, none])
  (.ret))) (.skip))))
 ((.seq ((.seq (.reg [⟨[], [], .cs .v (.n 0)⟩] [some 0, some 1, none, some 7, none, none, none])
 (.block 0 (.loop ((.seq ((.seq (.reg [⟨[], [], .nop⟩, ⟨[], [], .nop⟩, ⟨[], [], .ln (.e 0) []⟩, ⟨[], [], .bi .lss (.e 3) (.e 7)⟩] [some 0, some 1, none, some 3, none, some 8, none])
   (.cond 5 (.skip) (.exit 0))))
   ((.seq (.block 1 ((.seq (.reg [⟨[], [], .nop⟩, ⟨[], [], .nop⟩, ⟨[], [], .iy (.e 0) (.e 3)⟩, ⟨[], [], .nop⟩, ⟨[], [], .nop⟩, ⟨[], [], .nop⟩, ⟨[], [], .iy (.e 1) (.e 3)⟩, ⟨[], [], .nop⟩, ⟨[], [], .bi .neq (.e 7) (.e 8)⟩] [some 0, some 1, none, some 3, none, none, some 9])
    (.cond 6 ((.seq (.reg [⟨[], [], .cs .v (.b false)⟩] [none, none, some 7, none, none, none, none])
     (.ret))) (.skip)))))
   (.reg [⟨[], [], .nop⟩, ⟨[], [], .bi .add (.e 3) (.c (.n 1))⟩, ⟨[], [], .nop⟩] [some 0, some 1, none, some 7, none, none, none])))))))))
 ((.seq (.reg [⟨[], [], .cs .v (.b true)⟩] [none, none, some 7, none, none, none, none])
 (.ret))))))))⟩

/-- loop.example/g03401/laws.szClaim -/
def ir_laws_szClaim : IF := ⟨[], 2, 10, [3],
 (.seq (.reg [⟨[], [], .bp (.e 0)⟩, ⟨[], [], .cs .v (.n 0)⟩] [none, some 1, some 10, none, none, none, none, none, none, none])
 ((.seq (.reg [⟨[], [], .nop⟩, ⟨[], [], .fp true (.e 2) 1⟩, ⟨[], [], .nop⟩, ⟨[], [], .sn (.e 10)⟩, ⟨[], [], .bi .sub (.e 1) (.e 11)⟩, ⟨[], [], .nop⟩] [none, some 12, some 2, none, none, none, none, none, none, none])
 ((.seq ((.seq (.reg [⟨[], [], .nop⟩, ⟨[], [], .bi .lss (.e 1) (.c (.n 0))⟩] [none, some 1, some 2, none, some 10, none, none, none, none, none])
 (.cond 4 ((.seq (.reg [⟨[], [], .cs .v (.n (-1))⟩] [none, none, none, some 10, none, none, none, none, none, none])
  (.ret))) (.skip))))
 ((.seq (.reg [⟨[], [], .nop⟩, ⟨[], [], .fp true (.e 2) 2⟩, ⟨[], [], .nop⟩, ⟨[], [], .sn (.e 10)⟩, ⟨[], [], .bi .sub (.e 1) (.e 11)⟩, ⟨[], [], .nop⟩] [none, some 12, some 2, none, none, none, none, none, none, none])
 ((.seq ((.seq (.reg [⟨[], [], .nop⟩, ⟨[], [], .bi .lss (.e 1) (.c (.n 0))⟩] [none, some 1, some 2, none, none, some 10, none, none, none, none])
 (.cond 5 ((.seq (.reg [⟨[], [], .cs .v (.n (-1))⟩] [none, none, none, some 10, none, none, none, none, none, none])
  (.ret))) (.skip))))
 ((.seq (.reg [⟨[], [], .fp false (.e 2) 3⟩, ⟨[], [], .nop⟩, ⟨[], [], .nop⟩, ⟨[], [], .ca 145 [(.e 10), (.e 1)] 1⟩, ⟨[], [], .nop⟩] [none, some 11, some 2, none, none, none, none, none, none, none])
 ((.seq ((.seq (.reg [⟨[], [], .nop⟩, ⟨[], [], .bi .lss (.e 1) (.c (.n 0))⟩] [none, some 1, some 2, none, none, none, some 10, none, none, none])
 (.cond 6 ((.seq (.reg [⟨[], [], .cs .v (.n (-1))⟩] [none, none, none, some 10, none, none, none, none, none, none])
  (.ret))) (.skip))))
 ((.seq (.reg [⟨[], [], .fp false (.e 2) 4⟩, ⟨[], [], .nop⟩, ⟨[], [], .nop⟩, ⟨[], [], .ca 146 [(.e 10), (.e 1)] 1⟩, ⟨[], [], .nop⟩] [none, some 11, some 2, none, none, none, none, none, none, none])
 ((.seq ((.seq (.reg [⟨[], [], .nop⟩, ⟨[], [], .bi .lss (.e 1) (.c (.n 0))⟩] [none, some 1, some 2, none, none, none, none, some 10, none, none])
 (.cond 7 ((.seq (.reg [⟨[], [], .cs .v (.n (-1))⟩] [none, none, none, some 10, none, none, none, none, none, none])
  (.ret))) (.skip))))
 ((.seq (.reg [⟨[], [], .fp false (.e 2) 5⟩, ⟨[], [], .nop⟩, ⟨[], [], .nop⟩, ⟨[], [], .ca 146 [(.e 10), (.e 1)] 1⟩, ⟨[], [], .nop⟩] [none, some 11, some 2, none, none, none, none, none, none, none])
 ((.seq ((.seq (.reg [⟨[], [], .nop⟩, ⟨[], [], .bi .lss (.e 1) (.c (.n 0))⟩] [none, some 1, some 2, none, none, none, none, none, some 10, none])
 (.cond 8 ((.seq (.reg [⟨[], [], .cs .v (.n (-1))⟩] [none, none, none, some 10, none, none, none, none, none, none])
  (.ret))) (.skip))))
 ((.seq (.reg [⟨[], [], .fp false (.e 2) 6⟩, ⟨[], [], .nop⟩, ⟨[], [], .nop⟩, ⟨[], [], .ca 147 [(.e 10), (.e 1)] 1⟩, ⟨[], [], .nop⟩] [none, some 11, none, none, none, none, none, none, none, none])
 ((.seq ((.seq (.reg [⟨[], [], .nop⟩, ⟨[], [], .bi .lss (.e 1) (.c (.n 0))⟩] [none, some 1, none, none, none, none, none, none, none, some 10])
 (.cond 9 ((.seq (.reg [⟨[], [], .cs .v (.n (-1))⟩] [none, none, none, some 10, none, none, none, none, none, none])
  (.ret))) (.skip))))
 ((.seq (.reg [⟨[], [], .nop⟩, ⟨[], [], .nop⟩] [none, none, none, some 1, none, none, none, none, none, none])
 (.ret))))))))))))))))))))))))))))⟩

/-- loop.example/g03401/laws.szIntS -/
def ir_laws_szIntS : IF := ⟨[], 2, 4, [2],
 (.seq (.reg [⟨[], [], .cs .v (.n 0)⟩] [some 0, some 1, none, none])
 ((.seq (.reg [⟨[], [], .nop⟩, ⟨[], [], .nop⟩, ⟨[], [], .ln (.e 0) []⟩, ⟨[], [], .bi .sub (.e 1) (.e 4)⟩, ⟨[], [], .nop⟩] [none, some 5, none, none])
 ((.seq ((.seq (.reg [⟨[], [], .nop⟩, ⟨[], [], .bi .lss (.e 1) (.c (.n 0))⟩] [none, some 1, none, some 4])
 (.cond 3 ((.seq (.reg [⟨[], [], .cs .v (.n (-1))⟩] [none, none, some 4, none])
  (.ret))) (.skip))))
 ((.seq (.reg [⟨[], [], .nop⟩, ⟨[], [], .nop⟩] [none, none, some 1, none])
 (.ret))))))))⟩

/-- loop.example/g03401/laws.szIntSS -/
def ir_laws_szIntSS : IF := ⟨[], 2, 7, [2],
 (.seq (.reg [⟨[], [], .cs .v (.n 0)⟩] [some 0, some 1, none, none, none, none, none])
 ((.seq (.reg [⟨[], [], .nop⟩, ⟨[], [], .nop⟩, ⟨[], [], .ln (.e 0) []⟩, ⟨[], [], .bi .sub (.e 1) (.e 7)⟩, ⟨[], [], .nop⟩] [some 0, some 8, none, none, none, none, none])
 ((.seq ((.seq (.reg [⟨[], [], .nop⟩, ⟨[], [], .bi .lss (.e 1) (.c (.n 0))⟩] [some 0, some 1, none, none, some 7, none, none])
 (.cond 4 ((.seq (.reg [⟨[], [], .cs .v (.n (-1))⟩] [none, none, some 7, none, none, none, none])
  (.ret))) (.skip))))
 ((.seq ((.seq (.reg [⟨[], [], .cs .v (.n 0)⟩] [some 0, some 1, none, some 7, none, none, none])
 (.block 0 (.loop ((.seq ((.seq (.reg [⟨[], [], .nop⟩, ⟨[], [], .nop⟩, ⟨[], [], .ln (.e 0) []⟩, ⟨[], [], .bi .lss (.e 3) (.e 7)⟩] [some 0, some 1, none, some 3, none, some 8, none])
   (.cond 5 (.skip) (.exit 0))))
   ((.seq (.block 1 ((.seq (.reg [⟨[], [], .nop⟩, ⟨[], [], .nop⟩, ⟨[], [], .ix (.e 0) [] (.e 3)⟩, ⟨[], [], .nop⟩, ⟨[], [], .nop⟩, ⟨[], [], .ca 146 [(.e 7), (.e 1)] 1⟩, ⟨[], [], .nop⟩] [some 0, some 8, none, some 3, none, none, none])
    ((.seq (.reg [⟨[], [], .nop⟩, ⟨[], [], .bi .lss (.e 1) (.c (.n 0))⟩] [some 0, some 1, none, some 3, none, none, some 7])
    (.cond 6 ((.seq (.reg [⟨[], [], .cs .v (.n (-1))⟩] [none, none, some 7, none, none, none, none])
     (.ret))) (.skip)))))))
   (.reg [⟨[], [], .nop⟩, ⟨[], [], .bi .add (.e 3) (.c (.n 1))⟩, ⟨[], [], .nop⟩] [some 0, some 1, none, some 7, none, none, none])))))))))
 ((.seq (.reg [⟨[], [], .nop⟩, ⟨[], [], .nop⟩] [none, none, some 1, none, none, none, none])
 (.ret))))))))))⟩

/-- loop.example/g03401/laws.szStringS -/
def ir_laws_szStringS : IF := ⟨[], 2, 7, [2],
 (.seq (.reg [⟨[], [], .cs .v (.n 0)⟩] [some 0, some 1, none, none, none, none, none])
 ((.seq (.reg [⟨[], [], .nop⟩, ⟨[], [], .nop⟩, ⟨[], [], .ln (.e 0) []⟩, ⟨[], [], .bi .sub (.e 1) (.e 7)⟩, ⟨[], [], .nop⟩] [some 0, some 8, none, none, none, none, none])
 ((.seq ((.seq (.reg [⟨[], [], .nop⟩, ⟨[], [], .bi .lss (.e 1) (.c (.n 0))⟩] [some 0, some 1, none, none, some 7, none, none])
 (.cond 4 ((.seq (.reg [⟨[], [], .cs .v (.n (-1))⟩] [none, none, some 7, none, none, none, none])
  (.ret))) (.skip))))
 ((.seq ((.seq (.reg [⟨[], [], .cs .v (.n 0)⟩] [some 0, some 1, none, some 7, none, none, none])
 (.block 0 (.loop ((.seq ((.seq (.reg [⟨[], [], .nop⟩, ⟨[], [], .nop⟩, ⟨[], [], .ln (.e 0) []⟩, ⟨[], [], .bi .lss (.e 3) (.e 7)⟩] [some 0, some 1, none, some 3, none, some 8, none])
   (.cond 5 (.skip) (.exit 0))))
   ((.seq (.block 1 ((.seq (.reg [⟨[], [], .nop⟩, ⟨[], [], .nop⟩, ⟨[], [], .nop⟩, ⟨[], [], .iy (.e 0) (.e 3)⟩, ⟨[], [], .nop⟩, ⟨[], [], .sn (.e 7)⟩, ⟨[], [], .bi .sub (.e 1) (.e 8)⟩, ⟨[], [], .nop⟩] [some 0, some 9, none, some 3, none, none, none])
    ((.seq (.reg [⟨[], [], .nop⟩, ⟨[], [], .bi .lss (.e 1) (.c (.n 0))⟩] [some 0, some 1, none, some 3, none, none, some 7])
    (.cond 6 ((.seq (.reg [⟨[], [], .cs .v (.n (-1))⟩] [none, none, some 7, none, none, none, none])
     (.ret))) (.skip)))))))
   (.reg [⟨[], [], .nop⟩, ⟨[], [], .bi .add (.e 3) (.c (.n 1))⟩, ⟨[], [], .nop⟩] [some 0, some 1, none, some 7, none, none, none])))))))))
 ((.seq (.reg [⟨[], [], .nop⟩, ⟨[], [], .nop⟩] [none, none, some 1, none, none, none, none])
 (.ret))))))))))⟩

/-- loop.example/g03401/laws.toClaim -/
def ir_laws_toClaim : IF := ⟨[(0, 7)], 1, 4, [2],
 (.seq (.reg [⟨[], [], .bp (.e 0)⟩, ⟨[], [], .cs (.b (.o (.o (.o .v)))) (.g [(.n 0), (.s []), (.s []), (.l []), (.l []), (.l []), (.l [])])⟩] [none, some 4, some 5, none])
 ((.seq (.reg [⟨[], [], .cs (.b (.o (.o (.o .v)))) (.g [(.n 0), (.s []), (.s []), (.l []), (.l []), (.l []), (.l [])])⟩] [none, some 1, some 2, some 4])
 ((.seq (.reg [⟨[], [], .fp true (.e 1) 0⟩, ⟨[], [], .nop⟩, ⟨[], [], .gt (.e 3) [.k 0]⟩, ⟨[], [], .uq 3 [.k 0] (.e 4) 0 3⟩] [none, some 1, some 2, some 6])
 ((.seq (.reg [⟨[], [], .fp true (.e 1) 1⟩, ⟨[], [], .nop⟩, ⟨[], [], .gt (.e 3) [.k 1]⟩, ⟨[], [], .uq 3 [.k 1] (.e 4) 0 3⟩] [none, some 1, some 2, some 6])
 ((.seq (.reg [⟨[], [], .fp true (.e 1) 2⟩, ⟨[], [], .nop⟩, ⟨[], [], .gt (.e 3) [.k 2]⟩, ⟨[], [], .uq 3 [.k 2] (.e 4) 0 3⟩] [none, some 1, some 2, some 6])
 ((.seq (.reg [⟨[], [], .fp false (.e 1) 3⟩, ⟨[], [], .nop⟩, ⟨[], [], .ca 151 [(.e 4)] 1⟩, ⟨[], [], .gt (.e 3) [.k 3]⟩, ⟨[], [], .uq 3 [.k 3] (.e 5) 1 3⟩] [none, some 1, some 2, some 7])
 ((.seq (.reg [⟨[], [], .fp false (.e 1) 4⟩, ⟨[], [], .nop⟩, ⟨[], [], .ca 42 [(.e 4)] 1⟩, ⟨[], [], .gt (.e 3) [.k 4]⟩, ⟨[], [], .uq 3 [.k 4] (.e 5) 1 3⟩] [none, some 1, some 2, some 7])
 ((.seq (.reg [⟨[], [], .fp false (.e 1) 5⟩, ⟨[], [], .nop⟩, ⟨[], [], .ca 42 [(.e 4)] 1⟩, ⟨[], [], .gt (.e 3) [.k 5]⟩, ⟨[], [], .uq 3 [.k 5] (.e 5) 1 3⟩] [none, some 1, some 2, some 7])
 ((.seq (.reg [⟨[], [], .fp false (.e 1) 6⟩, ⟨[], [], .nop⟩, ⟨[], [], .ca 152 [(.e 4)] 1⟩, ⟨[], [], .gt (.e 3) [.k 6]⟩, ⟨[], [], .uq 3 [.k 6] (.e 5) 2 3⟩] [none, none, some 2, some 7])
 ((.seq (.reg [⟨[], [], .wl 7 (.e 3)⟩, ⟨[], [], .ws 2 7 (.e 4)⟩] [none, none, some 5, none])
 (.ret))))))))))))))))))))⟩

/-- loop.example/g03401/laws.toIntS -/
def ir_laws_toIntS : IF := ⟨[], 1, 5, [1],
 (.seq (.reg [⟨[], [], .cs (.o .v) (.l [])⟩] [some 0, none, none, none, none])
 ((.seq (.reg [⟨[], [], .nop⟩, ⟨[], [], .ln (.e 0) []⟩, ⟨[], [], .mk (.n 0) (.e 5) (.e 5)⟩, ⟨[], [], .nop⟩] [some 0, none, some 6, none, none])
 ((.seq ((.seq (.reg [⟨[], [], .cs .v (.n 0)⟩] [some 0, none, some 2, some 5, none])
 (.block 0 (.loop ((.seq ((.seq (.reg [⟨[], [], .nop⟩, ⟨[], [], .nop⟩, ⟨[], [], .ln (.e 0) []⟩, ⟨[], [], .bi .lss (.e 3) (.e 5)⟩] [some 0, none, some 2, some 3, some 6])
   (.cond 4 (.skip) (.exit 0))))
   ((.seq (.block 1 (.reg [⟨[], [], .nop⟩, ⟨[], [], .nop⟩, ⟨[], [], .nop⟩, ⟨[], [], .nop⟩, ⟨[], [], .iy (.e 0) (.e 3)⟩, ⟨[], [], .nop⟩, ⟨[], [], .ix (.e 2) [] (.e 3)⟩, ⟨[], [], .up 2 [.e 3] (.e 5)⟩] [some 0, none, some 7, some 3, none]))
   (.reg [⟨[], [], .nop⟩, ⟨[], [], .bi .add (.e 3) (.c (.n 1))⟩, ⟨[], [], .nop⟩] [some 0, none, some 2, some 5, none])))))))))
 ((.seq (.reg [⟨[], [], .nop⟩, ⟨[], [], .nop⟩] [none, some 2, none, none, none])
 (.ret))))))))⟩

/-- loop.example/g03401/laws.toIntSS -/
def ir_laws_toIntSS : IF := ⟨[], 1, 5, [1],
 (.seq (.reg [⟨[], [], .cs (.o (.o .v)) (.l [])⟩] [some 0, none, none, none, none])
 ((.seq (.reg [⟨[], [], .nop⟩, ⟨[], [], .ln (.e 0) []⟩, ⟨[], [], .mk (.l []) (.e 5) (.e 5)⟩, ⟨[], [], .nop⟩] [some 0, none, some 6, none, none])
 ((.seq ((.seq (.reg [⟨[], [], .cs .v (.n 0)⟩] [some 0, none, some 2, some 5, none])
 (.block 0 (.loop ((.seq ((.seq (.reg [⟨[], [], .nop⟩, ⟨[], [], .nop⟩, ⟨[], [], .ln (.e 0) []⟩, ⟨[], [], .bi .lss (.e 3) (.e 5)⟩] [some 0, none, some 2, some 3, some 6])
   (.cond 4 (.skip) (.exit 0))))
   ((.seq (.block 1 (.reg [⟨[], [], .nop⟩, ⟨[], [], .nop⟩, ⟨[], [], .nop⟩, ⟨[], [], .nop⟩, ⟨[], [], .ix (.e 0) [] (.e 3)⟩, ⟨[], [], .nop⟩, ⟨[], [], .ca 42 [(.e 5)] 1⟩, ⟨[], [], .ix (.e 2) [] (.e 3)⟩, ⟨[], [], .up 2 [.e 3] (.e 6)⟩] [some 0, none, some 8, some 3, none]))
   (.reg [⟨[], [], .nop⟩, ⟨[], [], .bi .add (.e 3) (.c (.n 1))⟩, ⟨[], [], .nop⟩] [some 0, none, some 2, some 5, none])))))))))
 ((.seq (.reg [⟨[], [], .nop⟩, ⟨[], [], .nop⟩] [none, some 2, none, none, none])
 (.ret))))))))⟩

/-- loop.example/g03401/laws.toStringS -/
def ir_laws_toStringS : IF := ⟨[], 1, 5, [1],
 (.seq (.reg [⟨[], [], .cs (.o .v) (.l [])⟩] [some 0, none, none, none, none])
 ((.seq (.reg [⟨[], [], .nop⟩, ⟨[], [], .ln (.e 0) []⟩, ⟨[], [], .mk (.s []) (.e 5) (.e 5)⟩, ⟨[], [], .nop⟩] [some 0, none, some 6, none, none])
 ((.seq ((.seq (.reg [⟨[], [], .cs .v (.n 0)⟩] [some 0, none, some 2, some 5, none])
 (.block 0 (.loop ((.seq ((.seq (.reg [⟨[], [], .nop⟩, ⟨[], [], .nop⟩, ⟨[], [], .ln (.e 0) []⟩, ⟨[], [], .bi .lss (.e 3) (.e 5)⟩] [some 0, none, some 2, some 3, some 6])
   (.cond 4 (.skip) (.exit 0))))
   ((.seq (.block 1 (.reg [⟨[], [], .nop⟩, ⟨[], [], .nop⟩, ⟨[], [], .nop⟩, ⟨[], [], .nop⟩, ⟨[], [], .iy (.e 0) (.e 3)⟩, ⟨[], [], .nop⟩, ⟨[], [], .ix (.e 2) [] (.e 3)⟩, ⟨[], [], .up 2 [.e 3] (.e 5)⟩] [some 0, none, some 7, some 3, none]))
   (.reg [⟨[], [], .nop⟩, ⟨[], [], .bi .add (.e 3) (.c (.n 1))⟩, ⟨[], [], .nop⟩] [some 0, none, some 2, some 5, none])))))))))
 ((.seq (.reg [⟨[], [], .nop⟩, ⟨[], [], .nop⟩] [none, some 2, none, none, none])
 (.ret))))))))⟩

end Go.Cat

namespace Go.Cat
/-- loop.example/g03401/impl.FormatInt -/
def ir_impl_FormatInt : IF := ⟨[], 1, 12, [1],
 (.seq (.reg [⟨[], [], .cs .v (.s [])⟩] [some 0, none, none, none, none, none, none, none, none, none, none, none])
 ((.seq ((.seq (.reg [⟨[], [], .nop⟩, ⟨[], [], .bi .eql (.e 0) (.c (.n 0))⟩] [some 0, none, none, none, none, none, none, some 12, none, none, none, none])
 (.cond 7 ((.seq (.reg [⟨[], [], .cs .v (.s [48])⟩] [none, some 12, none, none, none, none, none, none, none, none, none, none])
  (.ret))) (.skip))))
 ((.seq (.reg [⟨[], [], .li (.o .v) []⟩, ⟨[], [], .nop⟩] [some 0, none, some 12, none, none, none, none, none, none, none, none, none])
 ((.seq ((.seq (.reg [⟨[], [], .nop⟩, ⟨[], [], .nop⟩] [some 0, none, some 2, some 0, none, none, none, none, none, none, none, none])
 (.block 0 (.loop ((.seq ((.seq (.reg [⟨[], [], .nop⟩, ⟨[], [], .bi .neq (.e 3) (.c (.n 0))⟩] [some 0, none, some 2, some 3, none, none, none, none, some 12, none, none, none])
   (.cond 8 (.skip) (.exit 0))))
   ((.seq (.block 1 ((.seq (.reg [⟨[], [], .nop⟩, ⟨[], [], .bi .rem (.e 3) (.c (.n 10))⟩, ⟨[], [], .nop⟩] [some 0, none, some 2, some 3, some 12, none, none, none, none, none, none, none])
    ((.seq ((.seq (.reg [⟨[], [], .nop⟩, ⟨[], [], .bi .lss (.e 4) (.c (.n 0))⟩] [some 0, none, some 2, some 3, some 4, none, none, none, none, some 12, none, none])
    (.cond 9 (.reg [⟨[], [], .nop⟩, ⟨[], [], .un .neg (.e 4)⟩, ⟨[], [], .nop⟩] [some 0, none, some 2, some 3, some 12, none, none, none, none, none, none, none]) (.skip))))
    (.reg [⟨[], [], .nop⟩, ⟨[], [], .nop⟩, ⟨[], [], .bi .add (.c (.n 48)) (.e 4)⟩, ⟨[], [], .cv .u8 (.e 12)⟩, ⟨[], [], .li (.o .v) [(.e 13)]⟩, ⟨[], [], .ap false (.e 2) (.e 14)⟩, ⟨[], [], .nop⟩] [some 0, none, some 15, some 3, none, none, none, none, none, none, none, none]))))))
   (.reg [⟨[], [], .nop⟩, ⟨[], [], .bi .quo (.e 3) (.c (.n 10))⟩, ⟨[], [], .nop⟩] [some 0, none, some 2, some 12, none, none, none, none, none, none, none, none])))))))))
 ((.seq ((.seq (.reg [⟨[], [], .nop⟩, ⟨[], [], .bi .lss (.e 0) (.c (.n 0))⟩] [none, none, some 2, none, none, none, none, none, none, none, some 12, none])
 (.cond 10 (.reg [⟨[], [], .nop⟩, ⟨[], [], .li (.o .v) [(.c (.y 45))]⟩, ⟨[], [], .ap false (.e 2) (.e 12)⟩, ⟨[], [], .nop⟩] [none, none, some 13, none, none, none, none, none, none, none, none, none]) (.skip))))
 ((.seq ((.seq (.reg [⟨[], [], .nop⟩, ⟨[], [], .ln (.e 2) []⟩, ⟨[], [], .bi .sub (.e 12) (.c (.n 1))⟩, ⟨[], [], .cs .v (.n 0)⟩, ⟨[], [], .nop⟩] [none, none, some 2, none, none, some 14, some 13, none, none, none, none, none])
 (.block 2 (.loop ((.seq ((.seq (.reg [⟨[], [], .nop⟩, ⟨[], [], .nop⟩, ⟨[], [], .bi .lss (.e 5) (.e 6)⟩] [none, none, some 2, none, none, some 5, some 6, none, none, none, none, some 12])
   (.cond 11 (.skip) (.exit 2))))
   ((.seq (.block 3 (.reg [⟨[], [], .nop⟩, ⟨[], [], .nop⟩, ⟨[], [], .nop⟩, ⟨[], [], .nop⟩, ⟨[], [], .nop⟩, ⟨[], [], .nop⟩, ⟨[], [], .ix (.e 2) [] (.e 6)⟩, ⟨[], [], .nop⟩, ⟨[], [], .nop⟩, ⟨[], [], .nop⟩, ⟨[], [], .ix (.e 2) [] (.e 5)⟩, ⟨[], [], .nop⟩, ⟨[], [], .ix (.e 2) [] (.e 5)⟩, ⟨[], [], .up 2 [.e 5] (.e 12)⟩, ⟨[], [], .ix (.e 15) [] (.e 6)⟩, ⟨[], [], .up 15 [.e 6] (.e 13)⟩] [none, none, some 17, none, none, some 5, some 6, none, none, none, none, none]))
   (.reg [⟨[], [], .nop⟩, ⟨[], [], .bi .add (.e 5) (.c (.n 1))⟩, ⟨[], [], .nop⟩, ⟨[], [], .bi .sub (.e 6) (.c (.n 1))⟩, ⟨[], [], .nop⟩, ⟨[], [], .nop⟩] [none, none, some 2, none, none, some 12, some 13, none, none, none, none, none])))))))))
 ((.seq (.reg [⟨[], [], .nop⟩, ⟨[], [], .bs (.e 2)⟩, ⟨[], [], .nop⟩] [none, some 12, none, none, none, none, none, none, none, none, none, none])
 (.ret))))))))))))))⟩

/-- loop.example/g03401/impl.within -/
def ir_impl_within : IF := ⟨[], 3, 4, [3],
 (.seq (.reg [⟨[], [], .cs .v (.b false)⟩] [some 0, some 1, some 2, none])
 ((.seq (.reg [⟨[], [], .nop⟩, ⟨[], [], .nop⟩, ⟨[], [], .bi .geq (.e 0) (.e 1)⟩, ⟨[], [], .nop⟩, ⟨[], [(4, true)], .cy (.e 0)⟩, ⟨[], [(4, true)], .cy (.e 2)⟩, ⟨[], [(4, true)], .bi .leq (.e 5) (.e 6)⟩, ⟨[], [], .pk (.e 4) (.e 7) (.c (.b false))⟩, ⟨[], [], .nop⟩] [none, none, none, some 8])
 (.ret))))⟩

end Go.Cat

namespace Go.Cat
/-- loop.example/g03401/impl.IsDyck -/
def ir_impl_IsDyck : IF := ⟨[], 1, 4, [1],
 (.seq (.reg [⟨[], [], .cs .v (.b false)⟩] [some 0, none, none, none])
 ((.seq ((.seq (.reg [⟨[], [], .nop⟩, ⟨[], [], .sn (.e 0)⟩, ⟨[], [], .bi .gtr (.e 4) (.c (.n 16))⟩] [some 0, none, none, some 5])
 (.cond 3 ((.seq (.reg [⟨[], [], .cs .v (.b false)⟩] [none, some 4, none, none])
  (.ret))) (.skip))))
 ((.seq (.reg [⟨[], [], .nop⟩, ⟨[], [], .ca 82 [(.e 0)] 2⟩, ⟨[], [], .nop⟩, ⟨[], [], .nop⟩, ⟨[], [], .nop⟩, ⟨[], [], .nop⟩, ⟨[], [], .nop⟩] [none, none, some 5, none])
 ((.seq (.reg [⟨[], [], .nop⟩, ⟨[], [], .nop⟩] [none, some 2, none, none])
 (.ret))))))))⟩

/-- loop.example/g03401/impl.glued -/
def ir_impl_glued : IF := ⟨[], 2, 11, [2],
 (.seq (.reg [⟨[], [], .cs .v (.s [])⟩] [some 0, some 1, none, none, none, none, none, none, none, none, none])
 ((.seq (.reg [⟨[], [], .cs .v (.s [])⟩] [some 0, some 1, none, some 11, none, none, none, none, none, none, none])
 ((.seq ((.seq (.reg [⟨[], [], .nop⟩, ⟨[], [], .ln (.e 0) []⟩, ⟨[], [], .cs .v (.n 0)⟩] [none, some 1, none, some 3, none, none, some 0, some 11, some 12, none, none])
 (.block 0 (.loop ((.seq (.reg [⟨[], [], .bi .lss (.e 8) (.e 7)⟩] [none, some 1, none, some 3, none, none, some 6, some 7, some 8, some 11, none])
   ((.seq (.cond 9 (.skip) (.exit 0))
   ((.seq (.block 1 ((.seq (.reg [⟨[], [], .nop⟩, ⟨[], [], .iy (.e 6) (.e 8)⟩, ⟨[], [], .nop⟩, ⟨[], [], .nop⟩, ⟨[], [], .nop⟩] [none, some 1, none, some 3, some 8, some 11, some 6, some 7, some 8, none, none])
    ((.seq ((.seq (.reg [⟨[], [], .nop⟩, ⟨[], [], .bi .gtr (.e 4) (.c (.n 0))⟩] [none, some 1, none, some 3, none, some 5, some 6, some 7, some 8, none, some 11])
    (.cond 10 (.reg [⟨[], [], .nop⟩, ⟨[], [], .nop⟩, ⟨[], [], .bi .add (.e 3) (.e 1)⟩, ⟨[], [], .nop⟩] [none, some 1, none, some 11, none, some 5, some 6, some 7, some 8, none, none]) (.skip))))
    (.reg [⟨[], [], .nop⟩, ⟨[], [], .nop⟩, ⟨[], [], .bi .add (.e 3) (.e 5)⟩, ⟨[], [], .nop⟩] [none, some 1, none, some 11, none, none, some 6, some 7, some 8, none, none]))))))
   (.reg [⟨[], [], .bi .add (.e 8) (.c (.n 1))⟩, ⟨[], [], .nop⟩] [none, some 1, none, some 3, none, none, some 6, some 7, some 11, none, none])))))))))))
 ((.seq (.reg [⟨[], [], .nop⟩, ⟨[], [], .nop⟩] [none, none, some 3, none, none, none, none, none, none, none, none])
 (.ret))))))))⟩

/-- loop.example/g03401/impl.heights -/
def ir_impl_heights : IF := ⟨[], 1, 11, [1, 2],
 (.seq (.reg [⟨[], [], .cs (.o .v) (.l [])⟩, ⟨[], [], .cs .v (.b false)⟩] [some 0, none, none, none, none, none, none, none, none, none, none])
 ((.seq (.reg [⟨[], [], .li (.o .v) [(.c (.n 0))]⟩, ⟨[], [], .nop⟩] [some 0, none, none, some 11, none, none, none, none, none, none, none])
 ((.seq (.reg [⟨[], [], .cs .v (.n 0)⟩] [some 0, none, none, some 3, some 11, none, none, none, none, none, none])
 ((.seq ((.seq (.reg [⟨[], [], .cs .v (.n 0)⟩] [some 0, none, none, some 3, some 4, some 11, none, none, none, none, none])
 (.block 0 (.loop ((.seq ((.seq (.reg [⟨[], [], .nop⟩, ⟨[], [], .nop⟩, ⟨[], [], .sn (.e 0)⟩, ⟨[], [], .bi .lss (.e 5) (.e 11)⟩] [some 0, none, none, some 3, some 4, some 5, some 12, none, none, none, none])
   (.cond 6 (.skip) (.exit 0))))
   ((.seq (.block 1 ((.seq ((.seq (.reg [⟨[], [], .nop⟩, ⟨[], [], .nop⟩, ⟨[], [], .sx (.e 0) (.e 5)⟩] [some 0, none, none, some 3, some 4, some 5, none, some 11, none, none, none])
    (.block 2 ((.seq (.reg [⟨[], [], .bi .eql (.e 7) (.c (.y 117))⟩, ⟨[], [], .nop⟩] [some 0, none, none, some 3, some 4, some 5, none, some 7, some 11, none, none])
     (.cond 8 (.reg [⟨[], [], .nop⟩, ⟨[], [], .bi .add (.e 4) (.c (.n 1))⟩, ⟨[], [], .nop⟩] [some 0, none, none, some 3, some 11, some 5, none, none, none, none, none]) ((.seq (.reg [⟨[], [], .bi .eql (.e 7) (.c (.y 100))⟩, ⟨[], [], .nop⟩] [some 0, none, none, some 3, some 4, some 5, none, none, none, some 11, none])
      (.cond 9 (.reg [⟨[], [], .nop⟩, ⟨[], [], .bi .sub (.e 4) (.c (.n 1))⟩, ⟨[], [], .nop⟩] [some 0, none, none, some 3, some 11, some 5, none, none, none, none, none]) ((.seq (.reg [⟨[], [], .cs (.o .v) (.l [])⟩, ⟨[], [], .cs .v (.b false)⟩] [none, some 11, some 12, none, none, none, none, none, none, none, none])
       (.ret))))))))))))
    ((.seq ((.seq (.reg [⟨[], [], .nop⟩, ⟨[], [], .bi .lss (.e 4) (.c (.n 0))⟩] [some 0, none, none, some 3, some 4, some 5, none, none, none, none, some 11])
    (.cond 10 ((.seq (.reg [⟨[], [], .cs (.o .v) (.l [])⟩, ⟨[], [], .cs .v (.b false)⟩] [none, some 11, some 12, none, none, none, none, none, none, none, none])
     (.ret))) (.skip))))
    (.reg [⟨[], [], .nop⟩, ⟨[], [], .nop⟩, ⟨[], [], .li (.o .v) [(.e 4)]⟩, ⟨[], [], .ap false (.e 3) (.e 11)⟩, ⟨[], [], .nop⟩] [some 0, none, none, some 12, some 4, some 5, none, none, none, none, none]))))))
   (.reg [⟨[], [], .nop⟩, ⟨[], [], .bi .add (.e 5) (.c (.n 1))⟩, ⟨[], [], .nop⟩] [some 0, none, none, some 3, some 4, some 11, none, none, none, none, none])))))))))
 ((.seq (.reg [⟨[], [], .nop⟩, ⟨[], [], .nop⟩, ⟨[], [], .bi .eql (.e 4) (.c (.n 0))⟩, ⟨[], [], .nop⟩, ⟨[], [], .nop⟩] [none, some 3, some 11, none, none, none, none, none, none, none, none])
 (.ret))))))))))⟩

end Go.Cat

namespace Go.Cat
/-- loop.example/g03401/impl.IsBinary -/
def ir_impl_IsBinary : IF := ⟨[], 1, 3, [1],
 (.seq (.reg [⟨[], [], .cs .v (.b false)⟩] [some 0, none, none])
 ((.seq (.reg [⟨[], [], .nop⟩, ⟨[], [], .ca 194 [(.e 0)] 2⟩, ⟨[], [], .nop⟩, ⟨[], [], .nop⟩, ⟨[], [], .nop⟩, ⟨[], [], .nop⟩, ⟨[], [], .nop⟩] [none, none, some 4])
 ((.seq (.reg [⟨[], [], .nop⟩, ⟨[], [], .nop⟩] [none, some 2, none])
 (.ret))))))⟩

/-- loop.example/g03401/impl.parseTree -/
def ir_impl_parseTree : IF := ⟨[], 1, 7, [1, 2],
 (.seq (.reg [⟨[], [], .cs .v .z⟩, ⟨[], [], .cs .v (.b false)⟩] [some 0, none, none, none, none, none, none])
 ((.seq ((.seq (.reg [⟨[], [], .nop⟩, ⟨[], [], .sn (.e 0)⟩, ⟨[], [], .bi .gtr (.e 7) (.c (.n 25))⟩] [some 0, none, none, none, none, some 8, none])
 (.cond 5 ((.seq (.reg [⟨[], [], .cs .v .z⟩, ⟨[], [], .cs .v (.b false)⟩] [none, some 7, some 8, none, none, none, none])
  (.ret))) (.skip))))
 ((.seq (.reg [⟨[], [], .nop⟩, ⟨[], [], .ca 208 [(.e 0), (.c (.n 0))] 2⟩, ⟨[], [], .nop⟩, ⟨[], [], .nop⟩, ⟨[], [], .nop⟩, ⟨[], [], .nop⟩, ⟨[], [], .nop⟩] [some 0, none, none, some 7, some 8, none, none])
 ((.seq ((.seq (.reg [⟨[], [], .nop⟩, ⟨[], [], .nop⟩, ⟨[], [], .sn (.e 0)⟩, ⟨[], [], .bi .neq (.e 4) (.e 7)⟩, ⟨[], [], .nop⟩, ⟨[], [(8, false)], .cy (.e 3)⟩, ⟨[], [(8, false)], .ca 197 [(.e 9)] 1⟩, ⟨[], [(8, false)], .bi .gtr (.e 10) (.c (.n 8))⟩, ⟨[], [], .pk (.e 8) (.c (.b true)) (.e 11)⟩] [none, none, none, some 3, none, none, some 12])
 (.cond 6 ((.seq (.reg [⟨[], [], .cs .v .z⟩, ⟨[], [], .cs .v (.b false)⟩] [none, some 7, some 8, none, none, none, none])
  (.ret))) (.skip))))
 ((.seq (.reg [⟨[], [], .nop⟩, ⟨[], [], .nop⟩, ⟨[], [], .cs .v (.b true)⟩] [none, some 3, some 7, none, none, none, none])
 (.ret))))))))))⟩

/-- loop.example/g03401/impl.readTree -/
def ir_impl_readTree : IF := ⟨[], 2, 14, [2, 3],
 (.seq (.reg [⟨[], [], .cs .v .z⟩, ⟨[], [], .cs .v (.n 0)⟩] [some 0, some 1, none, none, none, none, none, none, none, none, none, none, none, none])
 ((.seq ((.seq (.reg [⟨[], [], .nop⟩, ⟨[], [], .nop⟩, ⟨[], [], .sn (.e 0)⟩, ⟨[], [], .bi .geq (.e 1) (.e 14)⟩] [some 0, some 1, none, none, none, none, none, none, some 15, none, none, none, none, none])
 (.cond 8 ((.seq (.reg [⟨[], [], .cs .v .z⟩, ⟨[], [], .cs .v (.n (-1))⟩] [none, none, some 14, some 15, none, none, none, none, none, none, none, none, none, none])
  (.ret))) (.skip))))
 ((.seq ((.seq (.reg [⟨[], [], .nop⟩, ⟨[], [], .nop⟩, ⟨[], [], .sx (.e 0) (.e 1)⟩] [some 0, some 1, none, none, none, none, none, none, none, some 14, none, none, none, none])
 (.block 0 ((.seq (.reg [⟨[], [], .bi .eql (.e 9) (.c (.y 46))⟩, ⟨[], [], .nop⟩] [some 0, some 1, none, none, none, none, none, none, none, some 9, some 14, none, none, none])
  (.cond 10 ((.seq (.reg [⟨[], [], .nop⟩, ⟨[], [], .bi .add (.e 1) (.c (.n 1))⟩, ⟨[], [], .cs .v .z⟩, ⟨[], [], .nop⟩] [none, none, some 15, some 14, none, none, none, none, none, none, none, none, none, none])
   (.ret))) ((.seq (.reg [⟨[], [], .bi .eql (.e 9) (.c (.y 40))⟩, ⟨[], [], .nop⟩] [some 0, some 1, none, none, none, none, none, none, none, none, none, some 14, none, none])
   (.cond 11 ((.seq (.reg [⟨[], [], .nop⟩, ⟨[], [], .nop⟩, ⟨[], [], .bi .add (.e 1) (.c (.n 1))⟩, ⟨[], [], .ca 208 [(.e 0), (.e 14)] 2⟩, ⟨[], [], .nop⟩, ⟨[], [], .nop⟩, ⟨[], [], .nop⟩, ⟨[], [], .nop⟩, ⟨[], [], .nop⟩] [some 0, none, none, none, some 15, some 16, none, none, none, none, none, none, none, none])
    ((.seq ((.seq (.reg [⟨[], [], .nop⟩, ⟨[], [], .bi .lss (.e 5) (.c (.n 0))⟩] [some 0, none, none, none, some 4, some 5, none, none, none, none, none, none, some 14, none])
    (.cond 12 ((.seq (.reg [⟨[], [], .cs .v .z⟩, ⟨[], [], .cs .v (.n (-1))⟩] [none, none, some 14, some 15, none, none, none, none, none, none, none, none, none, none])
     (.ret))) (.skip))))
    ((.seq (.reg [⟨[], [], .nop⟩, ⟨[], [], .nop⟩, ⟨[], [], .ca 208 [(.e 0), (.e 5)] 2⟩, ⟨[], [], .nop⟩, ⟨[], [], .nop⟩, ⟨[], [], .nop⟩, ⟨[], [], .nop⟩, ⟨[], [], .nop⟩] [some 0, none, none, none, some 4, none, some 14, some 15, none, none, none, none, none, none])
    ((.seq ((.seq (.reg [⟨[], [], .nop⟩, ⟨[], [], .bi .lss (.e 7) (.c (.n 0))⟩, ⟨[], [], .nop⟩, ⟨[], [(14, false)], .cy (.e 7)⟩, ⟨[], [(14, false)], .cy (.e 0)⟩, ⟨[], [(14, false)], .sn (.e 16)⟩, ⟨[], [(14, false)], .bi .geq (.e 15) (.e 17)⟩, ⟨[], [], .pk (.e 14) (.c (.b true)) (.e 18)⟩, ⟨[], [], .nop⟩, ⟨[], [(19, false)], .cy (.e 0)⟩, ⟨[], [(19, false)], .cy (.e 7)⟩, ⟨[], [(19, false)], .sx (.e 20) (.e 21)⟩, ⟨[], [(19, false)], .bi .neq (.e 22) (.c (.y 41))⟩, ⟨[], [], .pk (.e 19) (.c (.b true)) (.e 23)⟩] [none, none, none, none, some 4, none, some 6, some 7, none, none, none, none, none, some 24])
    (.cond 13 ((.seq (.reg [⟨[], [], .cs .v .z⟩, ⟨[], [], .cs .v (.n (-1))⟩] [none, none, some 14, some 15, none, none, none, none, none, none, none, none, none, none])
     (.ret))) (.skip))))
    ((.seq (.reg [⟨[], [], .nop⟩, ⟨[], [], .nop⟩, ⟨[], [], .bg 0 [((.e 4), 0), ((.e 6), 0)]⟩, ⟨[], [], .bp (.e 14)⟩, ⟨[], [], .nop⟩, ⟨[], [], .bi .add (.e 7) (.c (.n 1))⟩, ⟨[], [], .nop⟩, ⟨[], [], .nop⟩] [none, none, some 15, some 16, none, none, none, none, none, none, none, none, none, none])
    (.ret))))))))))) (.skip))))))))))
 ((.seq (.reg [⟨[], [], .cs .v .z⟩, ⟨[], [], .cs .v (.n (-1))⟩] [none, none, some 14, some 15, none, none, none, none, none, none, none, none, none, none])
 (.ret))))))))⟩

end Go.Cat

namespace Go.Cat
/-- loop.example/g03401/impl.FormatDiagonals -/
def ir_impl_FormatDiagonals : IF := ⟨[], 1, 11, [1],
 (.seq (.reg [⟨[], [], .cs .v (.s [])⟩] [some 0, none, none, none, none, none, none, none, none, none, none])
 ((.seq ((.seq (.reg [⟨[], [], .nop⟩, ⟨[], [], .ln (.e 0) []⟩, ⟨[], [], .bi .eql (.e 11) (.c (.n 0))⟩] [some 0, none, none, none, some 12, none, none, none, none, none, none])
 (.cond 4 ((.seq (.reg [⟨[], [], .cs .v (.s [110, 111, 110, 101])⟩] [none, some 11, none, none, none, none, none, none, none, none, none])
  (.ret))) (.skip))))
 ((.seq ((.seq (.reg [⟨[], [], .nop⟩, ⟨[], [], .ln (.e 0) []⟩, ⟨[], [], .bi .gtr (.e 11) (.c (.n 20))⟩] [some 0, none, none, none, none, some 12, none, none, none, none, none])
 (.cond 5 ((.seq (.reg [⟨[], [], .cs .v (.s [])⟩] [none, some 11, none, none, none, none, none, none, none, none, none])
  (.ret))) (.skip))))
 ((.seq (.reg [⟨[], [], .li (.o .v) []⟩, ⟨[], [], .nop⟩] [some 0, none, some 11, none, none, none, none, none, none, none, none])
 ((.seq ((.seq (.reg [⟨[], [], .nop⟩, ⟨[], [], .ln (.e 0) []⟩, ⟨[], [], .cs .v (.n 0)⟩] [none, none, some 2, none, none, none, some 0, some 11, some 12, none, none])
 (.block 0 (.loop ((.seq (.reg [⟨[], [], .bi .lss (.e 8) (.e 7)⟩] [none, none, some 2, none, none, none, some 6, some 7, some 8, some 11, none])
   ((.seq (.cond 9 (.skip) (.exit 0))
   ((.seq (.block 1 ((.seq (.reg [⟨[], [], .ix (.e 6) [] (.e 8)⟩, ⟨[], [], .nop⟩, ⟨[], [], .nop⟩] [none, none, some 2, some 11, none, none, some 6, some 7, some 8, none, none])
    ((.seq ((.seq (.reg [⟨[], [], .nop⟩, ⟨[], [], .ln (.e 3) []⟩, ⟨[], [], .bi .neq (.e 11) (.c (.n 2))⟩, ⟨[], [], .nop⟩, ⟨[], [(12, false)], .nop⟩, ⟨[], [(12, false)], .iy (.e 3) (.c (.n 0))⟩, ⟨[], [(12, false)], .nop⟩, ⟨[], [(12, false)], .ca 23 [(.e 13), (.c (.n 0)), (.c (.n 9))] 1⟩, ⟨[], [(12, false)], .un .not (.e 14)⟩, ⟨[], [], .pk (.e 12) (.c (.b true)) (.e 15)⟩, ⟨[], [], .nop⟩, ⟨[], [(16, false)], .nop⟩, ⟨[], [(16, false)], .iy (.e 3) (.c (.n 1))⟩, ⟨[], [(16, false)], .nop⟩, ⟨[], [(16, false)], .ca 23 [(.e 17), (.c (.n 0)), (.c (.n 9))] 1⟩, ⟨[], [(16, false)], .un .not (.e 18)⟩, ⟨[], [], .pk (.e 16) (.c (.b true)) (.e 19)⟩] [none, none, some 2, some 3, none, none, some 6, some 7, some 8, none, some 20])
    (.cond 10 ((.seq (.reg [⟨[], [], .cs .v (.s [])⟩] [none, some 11, none, none, none, none, none, none, none, none, none])
     (.ret))) (.skip))))
    (.reg [⟨[], [], .nop⟩, ⟨[], [], .nop⟩, ⟨[], [], .iy (.e 3) (.c (.n 0))⟩, ⟨[], [], .nop⟩, ⟨[], [], .ca 143 [(.e 11)] 1⟩, ⟨[], [], .nop⟩, ⟨[], [], .iy (.e 3) (.c (.n 1))⟩, ⟨[], [], .nop⟩, ⟨[], [], .ca 143 [(.e 13)] 1⟩, ⟨[], [], .bi .add (.e 12) (.e 14)⟩, ⟨[], [], .li (.o .v) [(.e 15)]⟩, ⟨[], [], .ap false (.e 2) (.e 16)⟩, ⟨[], [], .nop⟩] [none, none, some 17, none, none, none, some 6, some 7, some 8, none, none]))))))
   (.reg [⟨[], [], .bi .add (.e 8) (.c (.n 1))⟩, ⟨[], [], .nop⟩] [none, none, some 2, none, none, none, some 6, some 7, some 11, none, none])))))))))))
 ((.seq (.reg [⟨[], [], .nop⟩, ⟨[], [], .ca 184 [(.e 2), (.c (.s [32]))] 1⟩, ⟨[], [], .nop⟩] [none, some 11, none, none, none, none, none, none, none, none, none])
 (.ret))))))))))))⟩

end Go.Cat

namespace Go.Cat
/-- loop.example/g03401/impl.ClaimWord -/
def ir_impl_ClaimWord : IF := ⟨[], 1, 3, [1],
 (.seq (.reg [⟨[], [], .cs .v (.s [])⟩] [some 0, none, none])
 ((.seq ((.seq (.reg [⟨[], [], .nop⟩, ⟨[], [], .ca 23 [(.e 0), (.c (.n 1)), (.c (.n 6))] 1⟩, ⟨[], [], .un .not (.e 3)⟩] [some 0, none, some 4])
 (.cond 2 ((.seq (.reg [⟨[], [], .cs .v (.s [])⟩] [none, some 3, none])
  (.ret))) (.skip))))
 ((.seq (.reg [⟨[], [], .li (.o .v) [(.c (.s [98, 101, 108, 111, 119])), (.c (.s [100, 105, 115, 116, 97, 110, 99, 101])), (.c (.s [115, 111, 114, 116, 101, 100])), (.c (.s [117, 110, 115, 111, 114, 116, 101, 100])), (.c (.s [102, 114, 105, 101, 122, 101])), (.c (.s [109, 101, 97, 110, 100, 101, 114]))]⟩, ⟨[], [], .nop⟩, ⟨[], [], .bi .sub (.e 0) (.c (.n 1))⟩, ⟨[], [], .ix (.e 3) [] (.e 4)⟩, ⟨[], [], .nop⟩, ⟨[], [], .nop⟩] [none, some 5, none])
 (.ret))))))⟩

/-- loop.example/g03401/impl.FormatClaim -/
def ir_impl_FormatClaim : IF := ⟨[], 1, 19, [2],
 (.seq (.reg [⟨[], [], .bp (.e 0)⟩, ⟨[], [], .cs .v (.s [])⟩] [none, some 19, none, none, none, none, none, none, none, none, none, none, none, none, none, none, none, none, none])
 ((.seq (.reg [⟨[], [], .fp true (.e 1) 0⟩, ⟨[], [], .nop⟩, ⟨[], [], .ca 8 [(.e 19)] 1⟩, ⟨[], [], .nop⟩] [none, some 1, none, some 20, none, none, none, none, none, none, none, none, none, none, none, none, none, none, none])
 ((.seq ((.seq (.reg [⟨[], [], .fp true (.e 1) 0⟩, ⟨[], [], .nop⟩] [none, some 1, none, some 3, none, none, some 19, none, none, none, none, none, none, none, none, none, none, none, none])
 (.block 0 ((.seq ((.seq (.reg [⟨[], [], .bi .eql (.e 6) (.c (.n 1))⟩, ⟨[], [], .nop⟩] [none, some 1, none, some 3, none, none, some 6, some 19, none, none, none, none, none, none, none, none, none, none, none])
  (.cond 7 (.reg [⟨[], [], .cs .v (.b true)⟩] [none, some 1, none, some 3, none, none, some 6, some 19, none, none, none, none, none, none, none, none, none, none, none]) (.reg [⟨[], [], .bi .eql (.e 6) (.c (.n 2))⟩, ⟨[], [], .nop⟩] [none, some 1, none, some 3, none, none, some 6, some 19, none, none, none, none, none, none, none, none, none, none, none]))))
  (.cond 7 ((.seq ((.seq (.reg [⟨[], [], .fp false (.e 1) 3⟩, ⟨[], [], .nop⟩, ⟨[], [], .ln (.e 19) []⟩, ⟨[], [], .ca 23 [(.e 20), (.c (.n 1)), (.c (.n 40))] 1⟩, ⟨[], [], .un .not (.e 21)⟩] [none, some 1, none, some 3, none, none, none, none, some 22, none, none, none, none, none, none, none, none, none, none])
   (.cond 8 ((.seq (.reg [⟨[], [], .cs .v (.s [])⟩] [none, none, some 19, none, none, none, none, none, none, none, none, none, none, none, none, none, none, none, none])
    (.ret))) (.skip))))
   ((.seq ((.seq (.reg [⟨[], [], .fp false (.e 1) 3⟩, ⟨[], [], .nop⟩, ⟨[], [], .ln (.e 19) []⟩, ⟨[], [], .cs .v (.n 0)⟩] [none, some 1, none, some 3, none, none, none, none, none, some 19, some 20, some 21, none, none, none, none, none, none, none])
   (.block 1 (.loop ((.seq (.reg [⟨[], [], .bi .lss (.e 11) (.e 10)⟩] [none, some 1, none, some 3, none, none, none, none, none, some 9, some 10, some 11, some 19, none, none, none, none, none, none])
     ((.seq (.cond 12 (.skip) (.exit 1))
     ((.seq (.block 2 ((.seq (.reg [⟨[], [], .iy (.e 9) (.e 11)⟩, ⟨[], [], .nop⟩, ⟨[], [], .nop⟩] [none, some 1, none, some 3, some 19, none, none, none, none, some 9, some 10, some 11, none, none, none, none, none, none, none])
      ((.seq (.reg [⟨[], [], .nop⟩, ⟨[], [], .ca 167 [(.e 4)] 1⟩, ⟨[], [], .un .not (.e 19)⟩] [none, some 1, none, some 3, none, none, none, none, none, some 9, some 10, some 11, none, some 20, none, none, none, none, none])
      (.cond 13 ((.seq (.reg [⟨[], [], .cs .v (.s [])⟩] [none, none, some 19, none, none, none, none, none, none, none, none, none, none, none, none, none, none, none, none])
       (.ret))) (.skip)))))))
     (.reg [⟨[], [], .bi .add (.e 11) (.c (.n 1))⟩, ⟨[], [], .nop⟩] [none, some 1, none, some 3, none, none, none, none, none, some 9, some 10, some 19, none, none, none, none, none, none, none])))))))))))
   ((.seq (.reg [⟨[], [], .nop⟩, ⟨[], [], .bi .add (.e 3) (.c (.s [32]))⟩, ⟨[], [], .fp false (.e 1) 3⟩, ⟨[], [], .nop⟩, ⟨[], [], .ca 184 [(.e 20), (.c (.s [32]))] 1⟩, ⟨[], [], .bi .add (.e 19) (.e 21)⟩, ⟨[], [], .nop⟩] [none, none, some 22, none, none, none, none, none, none, none, none, none, none, none, none, none, none, none, none])
   (.ret))))))) ((.seq (.reg [⟨[], [], .bi .eql (.e 6) (.c (.n 3))⟩, ⟨[], [], .nop⟩] [none, some 1, none, some 3, none, none, some 6, none, none, none, none, none, none, none, some 19, none, none, none, none])
   (.cond 14 ((.seq ((.seq (.reg [⟨[], [], .fp true (.e 1) 1⟩, ⟨[], [], .nop⟩, ⟨[], [], .ca 67 [(.e 19)] 1⟩, ⟨[], [], .un .not (.e 20)⟩] [none, some 1, none, some 3, none, none, none, none, none, none, none, none, none, none, none, some 21, none, none, none])
    (.cond 15 ((.seq (.reg [⟨[], [], .cs .v (.s [])⟩] [none, none, some 19, none, none, none, none, none, none, none, none, none, none, none, none, none, none, none, none])
     (.ret))) (.skip))))
    ((.seq (.reg [⟨[], [], .nop⟩, ⟨[], [], .bi .add (.e 3) (.c (.s [32]))⟩, ⟨[], [], .fp false (.e 1) 4⟩, ⟨[], [], .nop⟩, ⟨[], [], .ca 353 [(.e 20)] 1⟩, ⟨[], [], .bi .add (.e 19) (.e 21)⟩, ⟨[], [], .bi .add (.e 22) (.c (.s [32, 98, 121, 32]))⟩, ⟨[], [], .fp true (.e 1) 1⟩, ⟨[], [], .nop⟩, ⟨[], [], .bi .add (.e 23) (.e 24)⟩, ⟨[], [], .nop⟩] [none, none, some 25, none, none, none, none, none, none, none, none, none, none, none, none, none, none, none, none])
    (.ret))))) ((.seq (.reg [⟨[], [], .bi .eql (.e 6) (.c (.n 5))⟩, ⟨[], [], .nop⟩] [none, some 1, none, some 3, none, none, some 6, none, none, none, none, none, none, none, none, none, some 19, none, none])
    (.cond 16 ((.seq (.reg [⟨[], [], .fp false (.e 1) 6⟩, ⟨[], [], .nop⟩, ⟨[], [], .ca 354 [(.e 19)] 1⟩, ⟨[], [], .nop⟩] [none, some 1, none, some 3, none, some 20, none, none, none, none, none, none, none, none, none, none, none, none, none])
     ((.seq ((.seq (.reg [⟨[], [], .nop⟩, ⟨[], [], .bi .eql (.e 5) (.c (.s []))⟩] [none, some 1, none, some 3, none, some 5, none, none, none, none, none, none, none, none, none, none, none, some 19, none])
     (.cond 17 ((.seq (.reg [⟨[], [], .cs .v (.s [])⟩] [none, none, some 19, none, none, none, none, none, none, none, none, none, none, none, none, none, none, none, none])
      (.ret))) (.skip))))
     ((.seq (.reg [⟨[], [], .nop⟩, ⟨[], [], .bi .add (.e 3) (.c (.s [32]))⟩, ⟨[], [], .fp false (.e 1) 4⟩, ⟨[], [], .nop⟩, ⟨[], [], .ca 353 [(.e 20)] 1⟩, ⟨[], [], .bi .add (.e 19) (.e 21)⟩, ⟨[], [], .bi .add (.e 22) (.c (.s [32, 98, 121, 32]))⟩, ⟨[], [], .nop⟩, ⟨[], [], .bi .add (.e 23) (.e 5)⟩, ⟨[], [], .nop⟩] [none, none, some 24, none, none, none, none, none, none, none, none, none, none, none, none, none, none, none, none])
     (.ret))))))) ((.seq ((.seq (.reg [⟨[], [], .bi .eql (.e 6) (.c (.n 4))⟩, ⟨[], [], .nop⟩] [none, some 1, none, some 3, none, none, some 6, none, none, none, none, none, none, none, none, none, none, none, some 19])
     (.cond 18 (.reg [⟨[], [], .cs .v (.b true)⟩] [none, some 1, none, some 3, none, none, some 6, none, none, none, none, none, none, none, none, none, none, none, some 19]) (.reg [⟨[], [], .bi .eql (.e 6) (.c (.n 6))⟩, ⟨[], [], .nop⟩] [none, some 1, none, some 3, none, none, none, none, none, none, none, none, none, none, none, none, none, none, some 19]))))
     (.cond 18 ((.seq (.reg [⟨[], [], .nop⟩, ⟨[], [], .bi .add (.e 3) (.c (.s [32]))⟩, ⟨[], [], .fp false (.e 1) 4⟩, ⟨[], [], .nop⟩, ⟨[], [], .ca 353 [(.e 20)] 1⟩, ⟨[], [], .bi .add (.e 19) (.e 21)⟩, ⟨[], [], .bi .add (.e 22) (.c (.s [32, 98, 121, 32]))⟩, ⟨[], [], .fp false (.e 1) 5⟩, ⟨[], [], .nop⟩, ⟨[], [], .ca 353 [(.e 24)] 1⟩, ⟨[], [], .bi .add (.e 23) (.e 25)⟩, ⟨[], [], .nop⟩] [none, none, some 26, none, none, none, none, none, none, none, none, none, none, none, none, none, none, none, none])
      (.ret))) (.skip))))))))))))))))
 ((.seq (.reg [⟨[], [], .cs .v (.s [])⟩] [none, none, some 19, none, none, none, none, none, none, none, none, none, none, none, none, none, none, none, none])
 (.ret))))))))⟩

/-- loop.example/g03401/impl.short -/
def ir_impl_short : IF := ⟨[], 1, 9, [1],
 (.seq (.reg [⟨[], [], .cs .v (.s [])⟩] [some 0, none, none, none, none, none, none, none, none])
 ((.seq ((.seq (.reg [⟨[], [], .nop⟩, ⟨[], [], .ln (.e 0) []⟩, ⟨[], [], .bi .eql (.e 9) (.c (.n 0))⟩, ⟨[], [], .nop⟩, ⟨[], [(10, false)], .nop⟩, ⟨[], [(10, false)], .ln (.e 0) []⟩, ⟨[], [(10, false)], .bi .gtr (.e 11) (.c (.n 40))⟩, ⟨[], [], .pk (.e 10) (.c (.b true)) (.e 12)⟩] [some 0, none, none, none, some 13, none, none, none, none])
 (.cond 4 ((.seq (.reg [⟨[], [], .cs .v (.s [110, 111, 110, 101])⟩] [none, some 9, none, none, none, none, none, none, none])
  (.ret))) (.skip))))
 ((.seq (.reg [⟨[], [], .li (.o .v) []⟩, ⟨[], [], .nop⟩] [some 0, none, some 9, none, none, none, none, none, none])
 ((.seq ((.seq (.reg [⟨[], [], .nop⟩, ⟨[], [], .ln (.e 0) []⟩, ⟨[], [], .cs .v (.n 0)⟩] [none, none, some 2, none, none, some 0, some 9, some 10, none])
 (.block 0 (.loop ((.seq (.reg [⟨[], [], .bi .lss (.e 7) (.e 6)⟩] [none, none, some 2, none, none, some 5, some 6, some 7, some 9])
   ((.seq (.cond 8 (.skip) (.exit 0))
   ((.seq (.block 1 ((.seq (.reg [⟨[], [], .iy (.e 5) (.e 7)⟩, ⟨[], [], .nop⟩, ⟨[], [], .nop⟩] [none, none, some 2, some 9, none, some 5, some 6, some 7, none])
    (.reg [⟨[], [], .nop⟩, ⟨[], [], .nop⟩, ⟨[], [], .mx (.e 3) (.c (.n (-99)))⟩, ⟨[], [], .mn (.e 9) (.c (.n 99))⟩, ⟨[], [], .ca 143 [(.e 10)] 1⟩, ⟨[], [], .li (.o .v) [(.e 11)]⟩, ⟨[], [], .ap false (.e 2) (.e 12)⟩, ⟨[], [], .nop⟩] [none, none, some 13, none, none, some 5, some 6, some 7, none]))))
   (.reg [⟨[], [], .bi .add (.e 7) (.c (.n 1))⟩, ⟨[], [], .nop⟩] [none, none, some 2, none, none, some 5, some 6, some 9, none])))))))))))
 ((.seq (.reg [⟨[], [], .nop⟩, ⟨[], [], .ca 184 [(.e 2), (.c (.s [44]))] 1⟩, ⟨[], [], .nop⟩] [none, some 9, none, none, none, none, none, none, none])
 (.ret))))))))))⟩

end Go.Cat

namespace Go.Cat
/-- loop.example/g03401/laws.FnExactFormatClaim -/
def ir_laws_FnExactFormatClaim : IF := ⟨[], 1, 10, [2],
 (.seq (.reg [⟨[], [], .bp (.e 0)⟩, ⟨[], [], .cs .v (.b false)⟩] [none, some 10, none, none, none, none, none, none, none, none])
 ((.seq (.reg [⟨[], [], .cs .v (.n 1048576)⟩] [none, some 1, none, some 10, none, none, none, none, none, none])
 ((.seq (.reg [⟨[], [], .gp (.e 1) 7⟩, ⟨[], [], .nop⟩, ⟨[], [], .ca 115 [(.e 10), (.e 3)] 1⟩, ⟨[], [], .nop⟩] [none, some 1, none, some 11, none, none, none, none, none, none])
 ((.seq ((.seq (.reg [⟨[], [], .nop⟩, ⟨[], [], .bi .lss (.e 3) (.c (.n 0))⟩] [none, some 1, none, none, none, none, none, some 10, none, none])
 (.cond 7 ((.seq (.reg [⟨[], [], .cs .v (.b true)⟩] [none, none, some 10, none, none, none, none, none, none, none])
  (.ret))) (.skip))))
 ((.seq (.reg [⟨[], [], .gp (.e 1) 7⟩, ⟨[], [], .ca 117 [(.e 10)] 1⟩, ⟨[], [], .ca 341 [(.e 11)] 1⟩, ⟨[], [], .nop⟩] [none, some 1, none, none, some 12, none, none, none, none, none])
 ((.seq (.reg [⟨[], [], .gp (.e 1) 7⟩, ⟨[], [], .ca 117 [(.e 10)] 1⟩, ⟨[], [], .cs (.b (.o (.o (.o .v)))) (.g [(.n 0), (.s []), (.s []), (.l []), (.l []), (.l []), (.l [])])⟩, ⟨[], [], .ws 12 7 (.e 11)⟩] [none, some 1, none, none, some 4, some 13, none, none, none, none])
 ((.seq (.reg [⟨[], [], .wl 7 (.e 5)⟩, ⟨[], [], .ca 342 [(.e 10)] 1⟩, ⟨[], [], .nop⟩] [none, some 1, none, none, some 4, some 5, some 11, none, none, none])
 ((.seq ((.seq (.reg [⟨[], [], .nop⟩, ⟨[], [], .nop⟩, ⟨[], [], .bi .neq (.e 6) (.e 4)⟩] [none, some 1, none, none, none, some 5, none, none, some 10, none])
 (.cond 8 ((.seq (.reg [⟨[], [], .cs .v (.b false)⟩] [none, none, some 10, none, none, none, none, none, none, none])
  (.ret))) (.skip))))
 ((.seq ((.seq (.reg [⟨[], [], .wl 7 (.e 5)⟩, ⟨[], [], .gp (.e 1) 7⟩, ⟨[], [], .ca 117 [(.e 11)] 1⟩, ⟨[], [], .ca 119 [(.e 10), (.e 12)] 1⟩, ⟨[], [], .un .not (.e 13)⟩] [none, none, none, none, none, none, none, none, none, some 14])
 (.cond 9 ((.seq (.reg [⟨[], [], .cs .v (.b false)⟩] [none, none, some 10, none, none, none, none, none, none, none])
  (.ret))) (.skip))))
 ((.seq (.reg [⟨[], [], .cs .v (.b true)⟩] [none, none, some 10, none, none, none, none, none, none, none])
 (.ret))))))))))))))))))))⟩

end Go.Cat

namespace Go.Cat
/-- loop.example/g03401/spec.FormatInt -/
def ir_spec_FormatInt : IF := ⟨[], 1, 9, [1],
 (.seq (.reg [⟨[], [], .cs .v (.s [])⟩] [some 0, none, none, none, none, none, none, none, none])
 ((.seq ((.seq (.reg [⟨[], [], .nop⟩, ⟨[], [], .bi .eql (.e 0) (.c (.n 0))⟩] [some 0, none, none, none, none, some 9, none, none, none])
 (.cond 5 ((.seq (.reg [⟨[], [], .cs .v (.s [48])⟩] [none, some 9, none, none, none, none, none, none, none])
  (.ret))) (.skip))))
 ((.seq (.reg [⟨[], [], .cs .v (.s [])⟩] [some 0, none, some 9, none, none, none, none, none, none])
 ((.seq (.reg [⟨[], [], .nop⟩, ⟨[], [], .bi .lss (.e 0) (.c (.n 0))⟩, ⟨[], [], .nop⟩] [some 0, none, some 2, some 9, none, none, none, none, none])
 ((.seq (.block 0 (.loop ((.seq ((.seq (.reg [⟨[], [], .nop⟩, ⟨[], [], .bi .neq (.e 0) (.c (.n 0))⟩] [some 0, none, some 2, some 3, none, none, some 9, none, none])
   (.cond 6 (.skip) (.exit 0))))
   (.block 1 ((.seq (.reg [⟨[], [], .nop⟩, ⟨[], [], .bi .rem (.e 0) (.c (.n 10))⟩, ⟨[], [], .nop⟩] [some 0, none, some 2, some 3, some 9, none, none, none, none])
    ((.seq ((.seq (.reg [⟨[], [], .nop⟩, ⟨[], [], .bi .lss (.e 4) (.c (.n 0))⟩] [some 0, none, some 2, some 3, some 4, none, none, some 9, none])
    (.cond 7 (.reg [⟨[], [], .nop⟩, ⟨[], [], .un .neg (.e 4)⟩, ⟨[], [], .nop⟩] [some 0, none, some 2, some 3, some 9, none, none, none, none]) (.skip))))
    ((.seq (.reg [⟨[], [], .nop⟩, ⟨[], [], .bi .add (.c (.n 48)) (.e 4)⟩, ⟨[], [], .cv .u8 (.e 9)⟩, ⟨[], [], .li (.o .v) [(.e 10)]⟩, ⟨[], [], .bs (.e 11)⟩, ⟨[], [], .nop⟩, ⟨[], [], .bi .add (.e 12) (.e 2)⟩, ⟨[], [], .nop⟩] [some 0, none, some 13, some 3, none, none, none, none, none])
    (.reg [⟨[], [], .nop⟩, ⟨[], [], .bi .quo (.e 0) (.c (.n 10))⟩, ⟨[], [], .nop⟩] [some 9, none, some 2, some 3, none, none, none, none, none]))))))))))))
 ((.seq ((.seq (.reg [⟨[], [], .nop⟩] [none, none, some 2, none, none, none, none, none, some 3])
 (.cond 8 ((.seq (.reg [⟨[], [], .nop⟩, ⟨[], [], .bi .add (.c (.s [45])) (.e 2)⟩, ⟨[], [], .nop⟩] [none, some 9, none, none, none, none, none, none, none])
  (.ret))) (.skip))))
 ((.seq (.reg [⟨[], [], .nop⟩, ⟨[], [], .nop⟩] [none, some 2, none, none, none, none, none, none, none])
 (.ret))))))))))))))⟩

/-- loop.example/g03401/spec.l1In -/
def ir_spec_l1In : IF := ⟨[], 3, 4, [3],
 (.seq (.reg [⟨[], [], .cs .v (.b false)⟩] [some 0, some 1, some 2, none])
 ((.seq (.reg [⟨[], [], .nop⟩, ⟨[], [], .nop⟩, ⟨[], [], .bi .geq (.e 0) (.e 1)⟩, ⟨[], [], .nop⟩, ⟨[], [(4, true)], .cy (.e 0)⟩, ⟨[], [(4, true)], .cy (.e 2)⟩, ⟨[], [(4, true)], .bi .leq (.e 5) (.e 6)⟩, ⟨[], [], .pk (.e 4) (.e 7) (.c (.b false))⟩, ⟨[], [], .nop⟩] [none, none, none, some 8])
 (.ret))))⟩

end Go.Cat

namespace Go.Cat
/-- loop.example/g03401/spec.IsDyck -/
def ir_spec_IsDyck : IF := ⟨[], 1, 9, [1],
 (.seq (.reg [⟨[], [], .cs .v (.b false)⟩] [some 0, none, none, none, none, none, none, none, none])
 ((.seq (.reg [⟨[], [], .cs .v (.n 0)⟩] [some 0, none, some 9, none, none, none, none, none, none])
 ((.seq ((.seq (.reg [⟨[], [], .cs .v (.n 0)⟩] [some 0, none, some 2, some 9, none, none, none, none, none])
 (.block 0 (.loop ((.seq ((.seq (.reg [⟨[], [], .nop⟩, ⟨[], [], .nop⟩, ⟨[], [], .sn (.e 0)⟩, ⟨[], [], .bi .lss (.e 3) (.e 9)⟩] [some 0, none, some 2, some 3, some 10, none, none, none, none])
   (.cond 4 (.skip) (.exit 0))))
   ((.seq (.block 1 ((.seq ((.seq (.reg [⟨[], [], .nop⟩, ⟨[], [], .nop⟩, ⟨[], [], .sx (.e 0) (.e 3)⟩] [some 0, none, some 2, some 3, none, some 9, none, none, none])
    (.block 2 ((.seq (.reg [⟨[], [], .bi .eql (.e 5) (.c (.y 117))⟩, ⟨[], [], .nop⟩] [some 0, none, some 2, some 3, none, some 5, some 9, none, none])
     (.cond 6 (.reg [⟨[], [], .nop⟩, ⟨[], [], .bi .add (.e 2) (.c (.n 1))⟩, ⟨[], [], .nop⟩] [some 0, none, some 9, some 3, none, none, none, none, none]) ((.seq (.reg [⟨[], [], .bi .eql (.e 5) (.c (.y 100))⟩, ⟨[], [], .nop⟩] [some 0, none, some 2, some 3, none, none, none, some 9, none])
      (.cond 7 (.reg [⟨[], [], .nop⟩, ⟨[], [], .bi .sub (.e 2) (.c (.n 1))⟩, ⟨[], [], .nop⟩] [some 0, none, some 9, some 3, none, none, none, none, none]) ((.seq (.reg [⟨[], [], .cs .v (.b false)⟩] [none, some 9, none, none, none, none, none, none, none])
       (.ret))))))))))))
    ((.seq (.reg [⟨[], [], .nop⟩, ⟨[], [], .bi .lss (.e 2) (.c (.n 0))⟩] [some 0, none, some 2, some 3, none, none, none, none, some 9])
    (.cond 8 ((.seq (.reg [⟨[], [], .cs .v (.b false)⟩] [none, some 9, none, none, none, none, none, none, none])
     (.ret))) (.skip)))))))
   (.reg [⟨[], [], .nop⟩, ⟨[], [], .bi .add (.e 3) (.c (.n 1))⟩, ⟨[], [], .nop⟩] [some 0, none, some 2, some 9, none, none, none, none, none])))))))))
 ((.seq (.reg [⟨[], [], .nop⟩, ⟨[], [], .bi .eql (.e 2) (.c (.n 0))⟩, ⟨[], [], .nop⟩, ⟨[], [(9, true)], .cy (.e 0)⟩, ⟨[], [(9, true)], .sn (.e 10)⟩, ⟨[], [(9, true)], .bi .leq (.e 11) (.c (.n 16))⟩, ⟨[], [], .pk (.e 9) (.e 12) (.c (.b false))⟩, ⟨[], [], .nop⟩] [none, some 13, none, none, none, none, none, none, none])
 (.ret))))))))⟩

end Go.Cat

namespace Go.Cat
/-- loop.example/g03401/spec.IsBinary -/
def ir_spec_IsBinary : IF := ⟨[], 1, 2, [1],
 (.seq (.reg [⟨[], [], .cs .v (.b false)⟩] [some 0, none])
 ((.seq (.reg [⟨[], [], .nop⟩, ⟨[], [], .sn (.e 0)⟩, ⟨[], [], .bi .leq (.e 2) (.c (.n 25))⟩, ⟨[], [], .nop⟩, ⟨[], [(3, true)], .cy (.e 0)⟩, ⟨[], [(3, true)], .ca 188 [(.e 4), (.c (.n 0))] 1⟩, ⟨[], [(3, true)], .cy (.e 0)⟩, ⟨[], [(3, true)], .sn (.e 6)⟩, ⟨[], [(3, true)], .bi .eql (.e 5) (.e 7)⟩, ⟨[], [], .pk (.e 3) (.e 8) (.c (.b false))⟩, ⟨[], [], .nop⟩, ⟨[], [(9, true)], .cy (.e 0)⟩, ⟨[], [(9, true)], .bi .neq (.e 10) (.c (.s []))⟩, ⟨[], [], .pk (.e 9) (.e 11) (.c (.b false))⟩, ⟨[], [], .nop⟩] [none, some 12])
 (.ret))))⟩

/-- loop.example/g03401/spec.l6End -/
def ir_spec_l6End : IF := ⟨[], 2, 10, [2],
 (.seq (.reg [⟨[], [], .cs .v (.n 0)⟩] [some 0, some 1, none, none, none, none, none, none, none, none])
 ((.seq ((.seq (.reg [⟨[], [], .nop⟩, ⟨[], [], .nop⟩, ⟨[], [], .sn (.e 0)⟩, ⟨[], [], .bi .geq (.e 1) (.e 10)⟩] [some 0, some 1, none, none, none, some 11, none, none, none, none])
 (.cond 5 ((.seq (.reg [⟨[], [], .cs .v (.n (-1))⟩] [none, none, some 10, none, none, none, none, none, none, none])
  (.ret))) (.skip))))
 ((.seq ((.seq (.reg [⟨[], [], .nop⟩, ⟨[], [], .nop⟩, ⟨[], [], .sx (.e 0) (.e 1)⟩, ⟨[], [], .bi .eql (.e 10) (.c (.y 46))⟩] [some 0, some 1, none, none, none, none, some 11, none, none, none])
 (.cond 6 ((.seq (.reg [⟨[], [], .nop⟩, ⟨[], [], .bi .add (.e 1) (.c (.n 1))⟩, ⟨[], [], .nop⟩] [none, none, some 10, none, none, none, none, none, none, none])
  (.ret))) (.skip))))
 ((.seq ((.seq (.reg [⟨[], [], .nop⟩, ⟨[], [], .nop⟩, ⟨[], [], .sx (.e 0) (.e 1)⟩, ⟨[], [], .bi .neq (.e 10) (.c (.y 40))⟩] [some 0, some 1, none, none, none, none, none, some 11, none, none])
 (.cond 7 ((.seq (.reg [⟨[], [], .cs .v (.n (-1))⟩] [none, none, some 10, none, none, none, none, none, none, none])
  (.ret))) (.skip))))
 ((.seq (.reg [⟨[], [], .nop⟩, ⟨[], [], .nop⟩, ⟨[], [], .bi .add (.e 1) (.c (.n 1))⟩, ⟨[], [], .ca 188 [(.e 0), (.e 10)] 1⟩, ⟨[], [], .nop⟩] [some 0, none, none, some 11, none, none, none, none, none, none])
 ((.seq ((.seq (.reg [⟨[], [], .nop⟩, ⟨[], [], .bi .lss (.e 3) (.c (.n 0))⟩] [some 0, none, none, some 3, none, none, none, none, some 10, none])
 (.cond 8 ((.seq (.reg [⟨[], [], .cs .v (.n (-1))⟩] [none, none, some 10, none, none, none, none, none, none, none])
  (.ret))) (.skip))))
 ((.seq (.reg [⟨[], [], .nop⟩, ⟨[], [], .nop⟩, ⟨[], [], .ca 188 [(.e 0), (.e 3)] 1⟩, ⟨[], [], .nop⟩] [some 0, none, none, none, some 10, none, none, none, none, none])
 ((.seq ((.seq (.reg [⟨[], [], .nop⟩, ⟨[], [], .bi .lss (.e 4) (.c (.n 0))⟩, ⟨[], [], .nop⟩, ⟨[], [(10, false)], .cy (.e 4)⟩, ⟨[], [(10, false)], .cy (.e 0)⟩, ⟨[], [(10, false)], .sn (.e 12)⟩, ⟨[], [(10, false)], .bi .geq (.e 11) (.e 13)⟩, ⟨[], [], .pk (.e 10) (.c (.b true)) (.e 14)⟩, ⟨[], [], .nop⟩, ⟨[], [(15, false)], .cy (.e 0)⟩, ⟨[], [(15, false)], .cy (.e 4)⟩, ⟨[], [(15, false)], .sx (.e 16) (.e 17)⟩, ⟨[], [(15, false)], .bi .neq (.e 18) (.c (.y 41))⟩, ⟨[], [], .pk (.e 15) (.c (.b true)) (.e 19)⟩] [none, none, none, none, some 4, none, none, none, none, some 20])
 (.cond 9 ((.seq (.reg [⟨[], [], .cs .v (.n (-1))⟩] [none, none, some 10, none, none, none, none, none, none, none])
  (.ret))) (.skip))))
 ((.seq (.reg [⟨[], [], .nop⟩, ⟨[], [], .bi .add (.e 4) (.c (.n 1))⟩, ⟨[], [], .nop⟩] [none, none, some 10, none, none, none, none, none, none, none])
 (.ret))))))))))))))))))⟩

end Go.Cat

namespace Go.Cat
/-- loop.example/g03401/spec.FormatDiagonals -/
def ir_spec_FormatDiagonals : IF := ⟨[], 1, 8, [1],
 (.seq (.reg [⟨[], [], .cs .v (.s [])⟩] [some 0, none, none, none, none, none, none, none])
 ((.seq (.reg [⟨[], [], .cs .v (.s [])⟩] [some 0, none, some 8, none, none, none, none, none])
 ((.seq ((.seq (.reg [⟨[], [], .cs .v (.n 0)⟩] [some 0, none, some 2, some 8, none, none, none, none])
 (.block 0 (.loop ((.seq ((.seq (.reg [⟨[], [], .nop⟩, ⟨[], [], .nop⟩, ⟨[], [], .ln (.e 0) []⟩, ⟨[], [], .bi .lss (.e 3) (.e 8)⟩] [some 0, none, some 2, some 3, some 9, none, none, none])
   (.cond 4 (.skip) (.exit 0))))
   ((.seq (.block 1 ((.seq ((.seq (.reg [⟨[], [], .nop⟩, ⟨[], [], .nop⟩, ⟨[], [], .ix (.e 0) [] (.e 3)⟩, ⟨[], [], .nop⟩, ⟨[], [], .ln (.e 8) []⟩, ⟨[], [], .bi .neq (.e 9) (.c (.n 2))⟩, ⟨[], [], .nop⟩, ⟨[], [(10, false)], .nop⟩, ⟨[], [(10, false)], .cy (.e 3)⟩, ⟨[], [(10, false)], .ix (.e 0) [] (.e 11)⟩, ⟨[], [(10, false)], .nop⟩, ⟨[], [(10, false)], .iy (.e 12) (.c (.n 0))⟩, ⟨[], [(10, false)], .nop⟩, ⟨[], [(10, false)], .ca 22 [(.e 13), (.c (.n 0)), (.c (.n 9))] 1⟩, ⟨[], [(10, false)], .un .not (.e 14)⟩, ⟨[], [], .pk (.e 10) (.c (.b true)) (.e 15)⟩, ⟨[], [], .nop⟩, ⟨[], [(16, false)], .nop⟩, ⟨[], [(16, false)], .cy (.e 3)⟩, ⟨[], [(16, false)], .ix (.e 0) [] (.e 17)⟩, ⟨[], [(16, false)], .nop⟩, ⟨[], [(16, false)], .iy (.e 18) (.c (.n 1))⟩, ⟨[], [(16, false)], .nop⟩, ⟨[], [(16, false)], .ca 22 [(.e 19), (.c (.n 0)), (.c (.n 9))] 1⟩, ⟨[], [(16, false)], .un .not (.e 20)⟩, ⟨[], [], .pk (.e 16) (.c (.b true)) (.e 21)⟩, ⟨[], [], .nop⟩, ⟨[], [(22, false)], .nop⟩, ⟨[], [(22, false)], .ln (.e 0) []⟩, ⟨[], [(22, false)], .bi .gtr (.e 23) (.c (.n 20))⟩, ⟨[], [], .pk (.e 22) (.c (.b true)) (.e 24)⟩] [some 0, none, some 2, some 3, none, some 25, none, none])
    (.cond 5 ((.seq (.reg [⟨[], [], .cs .v (.s [])⟩] [none, some 8, none, none, none, none, none, none])
     (.ret))) (.skip))))
    ((.seq ((.seq (.reg [⟨[], [], .nop⟩, ⟨[], [], .bi .gtr (.e 3) (.c (.n 0))⟩] [some 0, none, some 2, some 3, none, none, some 8, none])
    (.cond 6 (.reg [⟨[], [], .nop⟩, ⟨[], [], .bi .add (.e 2) (.c (.s [32]))⟩, ⟨[], [], .nop⟩] [some 0, none, some 8, some 3, none, none, none, none]) (.skip))))
    (.reg [⟨[], [], .nop⟩, ⟨[], [], .nop⟩, ⟨[], [], .nop⟩, ⟨[], [], .ix (.e 0) [] (.e 3)⟩, ⟨[], [], .nop⟩, ⟨[], [], .iy (.e 8) (.c (.n 0))⟩, ⟨[], [], .nop⟩, ⟨[], [], .ca 138 [(.e 9)] 1⟩, ⟨[], [], .bi .add (.e 2) (.e 10)⟩, ⟨[], [], .nop⟩, ⟨[], [], .nop⟩, ⟨[], [], .ix (.e 0) [] (.e 3)⟩, ⟨[], [], .nop⟩, ⟨[], [], .iy (.e 12) (.c (.n 1))⟩, ⟨[], [], .nop⟩, ⟨[], [], .ca 138 [(.e 13)] 1⟩, ⟨[], [], .bi .add (.e 11) (.e 14)⟩, ⟨[], [], .nop⟩] [some 0, none, some 15, some 3, none, none, none, none]))))))
   (.reg [⟨[], [], .nop⟩, ⟨[], [], .bi .add (.e 3) (.c (.n 1))⟩, ⟨[], [], .nop⟩] [some 0, none, some 2, some 8, none, none, none, none])))))))))
 ((.seq ((.seq (.reg [⟨[], [], .nop⟩, ⟨[], [], .bi .eql (.e 2) (.c (.s []))⟩] [none, none, some 2, none, none, none, none, some 8])
 (.cond 7 ((.seq (.reg [⟨[], [], .cs .v (.s [110, 111, 110, 101])⟩] [none, some 8, none, none, none, none, none, none])
  (.ret))) (.skip))))
 ((.seq (.reg [⟨[], [], .nop⟩, ⟨[], [], .nop⟩] [none, some 2, none, none, none, none, none, none])
 (.ret))))))))))⟩

end Go.Cat

namespace Go.Cat
/-- loop.example/g03401/spec.ClaimWord -/
def ir_spec_ClaimWord : IF := ⟨[], 1, 3, [1],
 (.seq (.reg [⟨[], [], .cs .v (.s [])⟩] [some 0, none, none])
 ((.seq ((.seq (.reg [⟨[], [], .nop⟩, ⟨[], [], .ca 22 [(.e 0), (.c (.n 1)), (.c (.n 6))] 1⟩, ⟨[], [], .un .not (.e 3)⟩] [some 0, none, some 4])
 (.cond 2 ((.seq (.reg [⟨[], [], .cs .v (.s [])⟩] [none, some 3, none])
  (.ret))) (.skip))))
 ((.seq (.reg [⟨[], [], .li (.o .v) [(.c (.s [98, 101, 108, 111, 119])), (.c (.s [100, 105, 115, 116, 97, 110, 99, 101])), (.c (.s [115, 111, 114, 116, 101, 100])), (.c (.s [117, 110, 115, 111, 114, 116, 101, 100])), (.c (.s [102, 114, 105, 101, 122, 101])), (.c (.s [109, 101, 97, 110, 100, 101, 114]))]⟩, ⟨[], [], .nop⟩, ⟨[], [], .bi .sub (.e 0) (.c (.n 1))⟩, ⟨[], [], .ix (.e 3) [] (.e 4)⟩, ⟨[], [], .nop⟩, ⟨[], [], .nop⟩] [none, some 5, none])
 (.ret))))))⟩

/-- loop.example/g03401/spec.FormatClaim -/
def ir_spec_FormatClaim : IF := ⟨[], 1, 16, [2],
 (.seq (.reg [⟨[], [], .bp (.e 0)⟩, ⟨[], [], .cs .v (.s [])⟩] [none, some 16, none, none, none, none, none, none, none, none, none, none, none, none, none, none])
 ((.seq (.reg [⟨[], [], .fp true (.e 1) 0⟩, ⟨[], [], .nop⟩, ⟨[], [], .ca 7 [(.e 16)] 1⟩, ⟨[], [], .nop⟩] [none, some 1, none, some 17, none, none, none, none, none, none, none, none, none, none, none, none])
 ((.seq ((.seq (.reg [⟨[], [], .fp true (.e 1) 0⟩, ⟨[], [], .nop⟩] [none, some 1, none, some 3, none, none, some 16, none, none, none, none, none, none, none, none, none])
 (.block 0 ((.seq ((.seq (.reg [⟨[], [], .bi .eql (.e 6) (.c (.n 1))⟩, ⟨[], [], .nop⟩] [none, some 1, none, some 3, none, none, some 6, some 16, none, none, none, none, none, none, none, none])
  (.cond 7 (.reg [⟨[], [], .cs .v (.b true)⟩] [none, some 1, none, some 3, none, none, some 6, some 16, none, none, none, none, none, none, none, none]) (.reg [⟨[], [], .bi .eql (.e 6) (.c (.n 2))⟩, ⟨[], [], .nop⟩] [none, some 1, none, some 3, none, none, some 6, some 16, none, none, none, none, none, none, none, none]))))
  (.cond 7 ((.seq ((.seq (.reg [⟨[], [], .fp false (.e 1) 3⟩, ⟨[], [], .nop⟩, ⟨[], [], .ln (.e 16) []⟩, ⟨[], [], .bi .gtr (.e 17) (.c (.n 40))⟩, ⟨[], [], .nop⟩, ⟨[], [(18, false)], .fp false (.e 1) 3⟩, ⟨[], [(18, false)], .nop⟩, ⟨[], [(18, false)], .ln (.e 19) []⟩, ⟨[], [(18, false)], .bi .eql (.e 20) (.c (.n 0))⟩, ⟨[], [], .pk (.e 18) (.c (.b true)) (.e 21)⟩] [none, some 1, none, some 3, none, none, none, none, some 22, none, none, none, none, none, none, none])
   (.cond 8 ((.seq (.reg [⟨[], [], .cs .v (.s [])⟩] [none, none, some 16, none, none, none, none, none, none, none, none, none, none, none, none, none])
    (.ret))) (.skip))))
   ((.seq ((.seq (.reg [⟨[], [], .cs .v (.n 0)⟩] [none, some 1, none, some 3, some 16, none, none, none, none, none, none, none, none, none, none, none])
   (.block 1 (.loop ((.seq ((.seq (.reg [⟨[], [], .nop⟩, ⟨[], [], .fp false (.e 1) 3⟩, ⟨[], [], .nop⟩, ⟨[], [], .ln (.e 16) []⟩, ⟨[], [], .bi .lss (.e 4) (.e 17)⟩] [none, some 1, none, some 3, some 4, none, none, none, none, some 18, none, none, none, none, none, none])
     (.cond 9 (.skip) (.exit 1))))
     ((.seq (.block 2 ((.seq ((.seq (.reg [⟨[], [], .fp false (.e 1) 3⟩, ⟨[], [], .nop⟩, ⟨[], [], .nop⟩, ⟨[], [], .iy (.e 16) (.e 4)⟩, ⟨[], [], .nop⟩, ⟨[], [], .ca 160 [(.e 17)] 1⟩, ⟨[], [], .un .not (.e 18)⟩] [none, some 1, none, some 3, some 4, none, none, none, none, none, some 19, none, none, none, none, none])
      (.cond 10 ((.seq (.reg [⟨[], [], .cs .v (.s [])⟩] [none, none, some 16, none, none, none, none, none, none, none, none, none, none, none, none, none])
       (.ret))) (.skip))))
      (.reg [⟨[], [], .nop⟩, ⟨[], [], .bi .add (.e 3) (.c (.s [32]))⟩, ⟨[], [], .fp false (.e 1) 3⟩, ⟨[], [], .nop⟩, ⟨[], [], .nop⟩, ⟨[], [], .iy (.e 17) (.e 4)⟩, ⟨[], [], .nop⟩, ⟨[], [], .bi .add (.e 16) (.e 18)⟩, ⟨[], [], .nop⟩] [none, some 1, none, some 19, some 4, none, none, none, none, none, none, none, none, none, none, none]))))
     (.reg [⟨[], [], .nop⟩, ⟨[], [], .bi .add (.e 4) (.c (.n 1))⟩, ⟨[], [], .nop⟩] [none, some 1, none, some 3, some 16, none, none, none, none, none, none, none, none, none, none, none])))))))))
   ((.seq (.reg [⟨[], [], .nop⟩, ⟨[], [], .nop⟩] [none, none, some 3, none, none, none, none, none, none, none, none, none, none, none, none, none])
   (.ret))))))) ((.seq (.reg [⟨[], [], .bi .eql (.e 6) (.c (.n 3))⟩, ⟨[], [], .nop⟩] [none, some 1, none, some 3, none, none, some 6, none, none, none, none, some 16, none, none, none, none])
   (.cond 11 ((.seq ((.seq (.reg [⟨[], [], .fp true (.e 1) 1⟩, ⟨[], [], .nop⟩, ⟨[], [], .ca 64 [(.e 16)] 1⟩, ⟨[], [], .un .not (.e 17)⟩] [none, some 1, none, some 3, none, none, none, none, none, none, none, none, some 18, none, none, none])
    (.cond 12 ((.seq (.reg [⟨[], [], .cs .v (.s [])⟩] [none, none, some 16, none, none, none, none, none, none, none, none, none, none, none, none, none])
     (.ret))) (.skip))))
    ((.seq (.reg [⟨[], [], .nop⟩, ⟨[], [], .bi .add (.e 3) (.c (.s [32]))⟩, ⟨[], [], .fp false (.e 1) 4⟩, ⟨[], [], .nop⟩, ⟨[], [], .ca 351 [(.e 17)] 1⟩, ⟨[], [], .bi .add (.e 16) (.e 18)⟩, ⟨[], [], .bi .add (.e 19) (.c (.s [32, 98, 121, 32]))⟩, ⟨[], [], .fp true (.e 1) 1⟩, ⟨[], [], .nop⟩, ⟨[], [], .bi .add (.e 20) (.e 21)⟩, ⟨[], [], .nop⟩] [none, none, some 22, none, none, none, none, none, none, none, none, none, none, none, none, none])
    (.ret))))) ((.seq ((.seq (.reg [⟨[], [], .bi .eql (.e 6) (.c (.n 4))⟩, ⟨[], [], .nop⟩] [none, some 1, none, some 3, none, none, some 6, none, none, none, none, none, none, some 16, none, none])
    (.cond 13 (.reg [⟨[], [], .cs .v (.b true)⟩] [none, some 1, none, some 3, none, none, some 6, none, none, none, none, none, none, some 16, none, none]) (.reg [⟨[], [], .bi .eql (.e 6) (.c (.n 6))⟩, ⟨[], [], .nop⟩] [none, some 1, none, some 3, none, none, some 6, none, none, none, none, none, none, some 16, none, none]))))
    (.cond 13 ((.seq (.reg [⟨[], [], .nop⟩, ⟨[], [], .bi .add (.e 3) (.c (.s [32]))⟩, ⟨[], [], .fp false (.e 1) 4⟩, ⟨[], [], .nop⟩, ⟨[], [], .ca 351 [(.e 17)] 1⟩, ⟨[], [], .bi .add (.e 16) (.e 18)⟩, ⟨[], [], .bi .add (.e 19) (.c (.s [32, 98, 121, 32]))⟩, ⟨[], [], .fp false (.e 1) 5⟩, ⟨[], [], .nop⟩, ⟨[], [], .ca 351 [(.e 21)] 1⟩, ⟨[], [], .bi .add (.e 20) (.e 22)⟩, ⟨[], [], .nop⟩] [none, none, some 23, none, none, none, none, none, none, none, none, none, none, none, none, none])
     (.ret))) ((.seq (.reg [⟨[], [], .bi .eql (.e 6) (.c (.n 5))⟩, ⟨[], [], .nop⟩] [none, some 1, none, some 3, none, none, none, none, none, none, none, none, none, none, some 16, none])
     (.cond 14 ((.seq (.reg [⟨[], [], .fp false (.e 1) 6⟩, ⟨[], [], .nop⟩, ⟨[], [], .ca 352 [(.e 16)] 1⟩, ⟨[], [], .nop⟩] [none, some 1, none, some 3, none, some 17, none, none, none, none, none, none, none, none, none, none])
      ((.seq ((.seq (.reg [⟨[], [], .nop⟩, ⟨[], [], .bi .eql (.e 5) (.c (.s []))⟩] [none, some 1, none, some 3, none, some 5, none, none, none, none, none, none, none, none, none, some 16])
      (.cond 15 ((.seq (.reg [⟨[], [], .cs .v (.s [])⟩] [none, none, some 16, none, none, none, none, none, none, none, none, none, none, none, none, none])
       (.ret))) (.skip))))
      ((.seq (.reg [⟨[], [], .nop⟩, ⟨[], [], .bi .add (.e 3) (.c (.s [32]))⟩, ⟨[], [], .fp false (.e 1) 4⟩, ⟨[], [], .nop⟩, ⟨[], [], .ca 351 [(.e 17)] 1⟩, ⟨[], [], .bi .add (.e 16) (.e 18)⟩, ⟨[], [], .bi .add (.e 19) (.c (.s [32, 98, 121, 32]))⟩, ⟨[], [], .nop⟩, ⟨[], [], .bi .add (.e 20) (.e 5)⟩, ⟨[], [], .nop⟩] [none, none, some 21, none, none, none, none, none, none, none, none, none, none, none, none, none])
      (.ret))))))) (.skip))))))))))))))))
 ((.seq (.reg [⟨[], [], .cs .v (.s [])⟩] [none, none, some 16, none, none, none, none, none, none, none, none, none, none, none, none, none])
 (.ret))))))))⟩

/-- loop.example/g03401/spec.l33Numbers -/
def ir_spec_l33Numbers : IF := ⟨[], 1, 7, [1],
 (.seq (.reg [⟨[], [], .cs .v (.s [])⟩] [some 0, none, none, none, none, none, none])
 ((.seq (.reg [⟨[], [], .cs .v (.s [])⟩] [some 0, none, some 7, none, none, none, none])
 ((.seq ((.seq (.reg [⟨[], [], .cs .v (.n 0)⟩] [some 0, none, some 2, some 7, none, none, none])
 (.block 0 (.loop ((.seq ((.seq (.reg [⟨[], [], .nop⟩, ⟨[], [], .nop⟩, ⟨[], [], .ln (.e 0) []⟩, ⟨[], [], .bi .lss (.e 3) (.e 7)⟩, ⟨[], [], .nop⟩, ⟨[], [(8, true)], .nop⟩, ⟨[], [(8, true)], .ln (.e 0) []⟩, ⟨[], [(8, true)], .bi .leq (.e 9) (.c (.n 40))⟩, ⟨[], [], .pk (.e 8) (.e 10) (.c (.b false))⟩] [some 0, none, some 2, some 3, some 11, none, none])
   (.cond 4 (.skip) (.exit 0))))
   ((.seq (.block 1 ((.seq ((.seq (.reg [⟨[], [], .nop⟩, ⟨[], [], .bi .gtr (.e 3) (.c (.n 0))⟩] [some 0, none, some 2, some 3, none, some 7, none])
    (.cond 5 (.reg [⟨[], [], .nop⟩, ⟨[], [], .bi .add (.e 2) (.c (.s [44]))⟩, ⟨[], [], .nop⟩] [some 0, none, some 7, some 3, none, none, none]) (.skip))))
    (.reg [⟨[], [], .nop⟩, ⟨[], [], .nop⟩, ⟨[], [], .nop⟩, ⟨[], [], .iy (.e 0) (.e 3)⟩, ⟨[], [], .nop⟩, ⟨[], [], .mn (.c (.n 99)) (.e 7)⟩, ⟨[], [], .mx (.c (.n (-99))) (.e 8)⟩, ⟨[], [], .ca 138 [(.e 9)] 1⟩, ⟨[], [], .bi .add (.e 2) (.e 10)⟩, ⟨[], [], .nop⟩] [some 0, none, some 11, some 3, none, none, none]))))
   (.reg [⟨[], [], .nop⟩, ⟨[], [], .bi .add (.e 3) (.c (.n 1))⟩, ⟨[], [], .nop⟩] [some 0, none, some 2, some 7, none, none, none])))))))))
 ((.seq ((.seq (.reg [⟨[], [], .nop⟩, ⟨[], [], .bi .eql (.e 2) (.c (.s []))⟩] [none, none, some 2, none, none, none, some 7])
 (.cond 6 ((.seq (.reg [⟨[], [], .cs .v (.s [110, 111, 110, 101])⟩] [none, some 7, none, none, none, none, none])
  (.ret))) (.skip))))
 ((.seq (.reg [⟨[], [], .nop⟩, ⟨[], [], .nop⟩] [none, some 2, none, none, none, none, none])
 (.ret))))))))))⟩

end Go.Cat

namespace Go.Cat
end Go.Cat

namespace Go.Cat
end Go.Cat

namespace Go.Cat
end Go.Cat

namespace Go.Cat
end Go.Cat

namespace Go.Cat
end Go.Cat

