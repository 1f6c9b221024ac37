/-
  Texts of the little language.
-/
import Derived.Test.YthbpihoafdpicaaCatTwo
namespace Go.Cat
/-- loop.example/g03401/laws.eqIntS -/
def ir_laws_eqIntS : IF := ⟨2, 7, [2],
 (.seq (.reg [⟨[], [], .cs .v (.b false)⟩] [some 0, some 1, none, none, none, none, none])
 ((.seq ((.seq (.reg [⟨[], [], .nop⟩, ⟨[], [], .ln (.e 0) []⟩, ⟨[], [], .nop⟩, ⟨[], [], .ln (.e 1) []⟩, ⟨[], [], .bi .neq (.e 7) (.e 8)⟩] [some 0, some 1, none, none, some 9, none, none])
 (.cond 4 ((.seq (.reg [⟨[], [], .cs .v (.b false)⟩] [none, none, some 7, none, none, none, none])
  (.ret))) (.skip))))
 ((.seq ((.seq (.reg [⟨[], [], .cs .v (.n 0)⟩] [some 0, some 1, none, some 7, none, none, none])
 (.block 0 (.loop ((.seq ((.seq (.reg [⟨[], [], .nop⟩, ⟨[], [], .nop⟩, ⟨[], [], .ln (.e 0) []⟩, ⟨[], [], .bi .lss (.e 3) (.e 7)⟩] [some 0, some 1, none, some 3, none, some 8, none])
   (.cond 5 (.skip) (.exit 0))))
   ((.seq (.block 1 ((.seq (.reg [⟨[], [], .nop⟩, ⟨[], [], .nop⟩, ⟨[], [], .iy (.e 0) (.e 3)⟩, ⟨[], [], .nop⟩, ⟨[], [], .nop⟩, ⟨[], [], .nop⟩, ⟨[], [], .iy (.e 1) (.e 3)⟩, ⟨[], [], .nop⟩, ⟨[], [], .bi .neq (.e 7) (.e 8)⟩] [some 0, some 1, none, some 3, none, none, some 9])
    (.cond 6 ((.seq (.reg [⟨[], [], .cs .v (.b false)⟩] [none, none, some 7, none, none, none, none])
     (.ret))) (.skip)))))
   (.reg [⟨[], [], .nop⟩, ⟨[], [], .bi .add (.e 3) (.c (.n 1))⟩, ⟨[], [], .nop⟩] [some 0, some 1, none, some 7, none, none, none])))))))))
 ((.seq (.reg [⟨[], [], .cs .v (.b true)⟩] [none, none, some 7, none, none, none, none])
 (.ret))))))))⟩

/-- loop.example/g03401/laws.eqIntSS -/
def ir_laws_eqIntSS : IF := ⟨2, 7, [2],
 (.seq (.reg [⟨[], [], .cs .v (.b false)⟩] [some 0, some 1, none, none, none, none, none])
 ((.seq ((.seq (.reg [⟨[], [], .nop⟩, ⟨[], [], .ln (.e 0) []⟩, ⟨[], [], .nop⟩, ⟨[], [], .ln (.e 1) []⟩, ⟨[], [], .bi .neq (.e 7) (.e 8)⟩] [some 0, some 1, none, none, some 9, none, none])
 (.cond 4 ((.seq (.reg [⟨[], [], .cs .v (.b false)⟩] [none, none, some 7, none, none, none, none])
  (.ret))) (.skip))))
 ((.seq ((.seq (.reg [⟨[], [], .cs .v (.n 0)⟩] [some 0, some 1, none, some 7, none, none, none])
 (.block 0 (.loop ((.seq ((.seq (.reg [⟨[], [], .nop⟩, ⟨[], [], .nop⟩, ⟨[], [], .ln (.e 0) []⟩, ⟨[], [], .bi .lss (.e 3) (.e 7)⟩] [some 0, some 1, none, some 3, none, some 8, none])
   (.cond 5 (.skip) (.exit 0))))
   ((.seq (.block 1 ((.seq (.reg [⟨[], [], .nop⟩, ⟨[], [], .nop⟩, ⟨[], [], .ix (.e 0) [] (.e 3)⟩, ⟨[], [], .nop⟩, ⟨[], [], .nop⟩, ⟨[], [], .nop⟩, ⟨[], [], .ix (.e 1) [] (.e 3)⟩, ⟨[], [], .nop⟩, ⟨[], [], .ca 44 [(.e 7), (.e 8)] 1⟩, ⟨[], [], .un .not (.e 9)⟩] [some 0, some 1, none, some 3, none, none, some 10])
    (.cond 6 ((.seq (.reg [⟨[], [], .cs .v (.b false)⟩] [none, none, some 7, none, none, none, none])
     (.ret))) (.skip)))))
   (.reg [⟨[], [], .nop⟩, ⟨[], [], .bi .add (.e 3) (.c (.n 1))⟩, ⟨[], [], .nop⟩] [some 0, some 1, none, some 7, none, none, none])))))))))
 ((.seq (.reg [⟨[], [], .cs .v (.b true)⟩] [none, none, some 7, none, none, none, none])
 (.ret))))))))⟩

/-- loop.example/g03401/laws.eqStringS -/
def ir_laws_eqStringS : IF := ⟨2, 7, [2],
 (.seq (.reg [⟨[], [], .cs .v (.b false)⟩] [some 0, some 1, none, none, none, none, none])
 ((.seq ((.seq (.reg [⟨[], [], .nop⟩, ⟨[], [], .ln (.e 0) []⟩, ⟨[], [], .nop⟩, ⟨[], [], .ln (.e 1) []⟩, ⟨[], [], .bi .neq (.e 7) (.e 8)⟩] [some 0, some 1, none, none, some 9, none, none])
 (.cond 4 ((.seq (.reg [⟨[], [], .cs .v (.b false)⟩] [none, none, some 7, none, none, none, none])
  (.ret))) (.skip))))
 ((.seq ((.seq (.reg [⟨[], [], .cs .v (.n 0)⟩] [some 0, some 1, none, some 7, none, none, none])
 (.block 0 (.loop ((.seq ((.seq (.reg [⟨[], [], .nop⟩, ⟨[], [], .nop⟩, ⟨[], [], .ln (.e 0) []⟩, ⟨[], [], .bi .lss (.e 3) (.e 7)⟩] [some 0, some 1, none, some 3, none, some 8, none])
   (.cond 5 (.skip) (.exit 0))))
   ((.seq (.block 1 ((.seq (.reg [⟨[], [], .nop⟩, ⟨[], [], .nop⟩, ⟨[], [], .iy (.e 0) (.e 3)⟩, ⟨[], [], .nop⟩, ⟨[], [], .nop⟩, ⟨[], [], .nop⟩, ⟨[], [], .iy (.e 1) (.e 3)⟩, ⟨[], [], .nop⟩, ⟨[], [], .bi .neq (.e 7) (.e 8)⟩] [some 0, some 1, none, some 3, none, none, some 9])
    (.cond 6 ((.seq (.reg [⟨[], [], .cs .v (.b false)⟩] [none, none, some 7, none, none, none, none])
     (.ret))) (.skip)))))
   (.reg [⟨[], [], .nop⟩, ⟨[], [], .bi .add (.e 3) (.c (.n 1))⟩, ⟨[], [], .nop⟩] [some 0, some 1, none, some 7, none, none, none])))))))))
 ((.seq (.reg [⟨[], [], .cs .v (.b true)⟩] [none, none, some 7, none, none, none, none])
 (.ret))))))))⟩

/-- loop.example/g03401/laws.heldIntS -/
def ir_laws_heldIntS : IF := ⟨2, 6, [2],
 (.seq (.reg [⟨[], [], .cs .v (.n 0)⟩] [some 0, some 1, none, none, none, none])
 ((.seq ((.seq (.reg [⟨[], [], .cs .v (.n 0)⟩] [some 0, some 1, none, some 6, none, none])
 (.block 0 (.loop ((.seq ((.seq (.reg [⟨[], [], .nop⟩, ⟨[], [], .nop⟩, ⟨[], [], .ln (.e 0) []⟩, ⟨[], [], .bi .lss (.e 3) (.e 6)⟩] [some 0, some 1, none, some 3, some 7, none])
   (.cond 4 (.skip) (.exit 0))))
   ((.seq (.block 1 ((.seq ((.seq (.reg [⟨[], [], .nop⟩, ⟨[], [], .nop⟩, ⟨[], [], .iy (.e 0) (.e 3)⟩, ⟨[], [], .nop⟩, ⟨[], [], .nop⟩, ⟨[], [], .bi .neq (.e 6) (.e 1)⟩] [some 0, some 1, none, some 3, none, some 7])
    (.cond 5 ((.seq (.reg [⟨[], [], .cs .v (.n (-1))⟩] [none, none, some 6, none, none, none])
     (.ret))) (.skip))))
    (.reg [⟨[], [], .nop⟩, ⟨[], [], .bi .add (.e 1) (.c (.n 1))⟩, ⟨[], [], .nop⟩] [some 0, some 6, none, some 3, none, none]))))
   (.reg [⟨[], [], .nop⟩, ⟨[], [], .bi .add (.e 3) (.c (.n 1))⟩, ⟨[], [], .nop⟩] [some 0, some 1, none, some 6, none, none])))))))))
 ((.seq (.reg [⟨[], [], .nop⟩, ⟨[], [], .nop⟩] [none, none, some 1, none, none, none])
 (.ret))))))⟩

/-- loop.example/g03401/laws.heldIntSS -/
def ir_laws_heldIntSS : IF := ⟨2, 6, [2],
 (.seq (.reg [⟨[], [], .cs .v (.n 0)⟩] [some 0, some 1, none, none, none, none])
 ((.seq ((.seq (.reg [⟨[], [], .cs .v (.n 0)⟩] [some 0, some 1, none, some 6, none, none])
 (.block 0 (.loop ((.seq ((.seq (.reg [⟨[], [], .nop⟩, ⟨[], [], .nop⟩, ⟨[], [], .ln (.e 0) []⟩, ⟨[], [], .bi .lss (.e 3) (.e 6)⟩] [some 0, some 1, none, some 3, some 7, none])
   (.cond 4 (.skip) (.exit 0))))
   ((.seq (.block 1 ((.seq (.reg [⟨[], [], .nop⟩, ⟨[], [], .nop⟩, ⟨[], [], .ix (.e 0) [] (.e 3)⟩, ⟨[], [], .nop⟩, ⟨[], [], .nop⟩, ⟨[], [], .ca 46 [(.e 6), (.e 1)] 1⟩, ⟨[], [], .nop⟩] [some 0, some 7, none, some 3, none, none])
    ((.seq (.reg [⟨[], [], .nop⟩, ⟨[], [], .bi .lss (.e 1) (.c (.n 0))⟩] [some 0, some 1, none, some 3, none, some 6])
    (.cond 5 ((.seq (.reg [⟨[], [], .cs .v (.n (-1))⟩] [none, none, some 6, none, none, none])
     (.ret))) (.skip)))))))
   (.reg [⟨[], [], .nop⟩, ⟨[], [], .bi .add (.e 3) (.c (.n 1))⟩, ⟨[], [], .nop⟩] [some 0, some 1, none, some 6, none, none])))))))))
 ((.seq (.reg [⟨[], [], .nop⟩, ⟨[], [], .nop⟩] [none, none, some 1, none, none, none])
 (.ret))))))⟩

/-- loop.example/g03401/laws.heldStringS -/
def ir_laws_heldStringS : IF := ⟨2, 6, [2],
 (.seq (.reg [⟨[], [], .cs .v (.n 0)⟩] [some 0, some 1, none, none, none, none])
 ((.seq ((.seq (.reg [⟨[], [], .cs .v (.n 0)⟩] [some 0, some 1, none, some 6, none, none])
 (.block 0 (.loop ((.seq ((.seq (.reg [⟨[], [], .nop⟩, ⟨[], [], .nop⟩, ⟨[], [], .ln (.e 0) []⟩, ⟨[], [], .bi .lss (.e 3) (.e 6)⟩] [some 0, some 1, none, some 3, some 7, none])
   (.cond 4 (.skip) (.exit 0))))
   ((.seq (.block 1 ((.seq ((.seq (.reg [⟨[], [], .nop⟩, ⟨[], [], .nop⟩, ⟨[], [], .iy (.e 0) (.e 3)⟩, ⟨[], [], .nop⟩, ⟨[], [], .nop⟩, ⟨[], [], .ca 26 [(.e 1)] 1⟩, ⟨[], [], .bi .neq (.e 6) (.e 7)⟩] [some 0, some 1, none, some 3, none, some 8])
    (.cond 5 ((.seq (.reg [⟨[], [], .cs .v (.n (-1))⟩] [none, none, some 6, none, none, none])
     (.ret))) (.skip))))
    (.reg [⟨[], [], .nop⟩, ⟨[], [], .bi .add (.e 1) (.c (.n 1))⟩, ⟨[], [], .nop⟩] [some 0, some 6, none, some 3, none, none]))))
   (.reg [⟨[], [], .nop⟩, ⟨[], [], .bi .add (.e 3) (.c (.n 1))⟩, ⟨[], [], .nop⟩] [some 0, some 1, none, some 6, none, none])))))))))
 ((.seq (.reg [⟨[], [], .nop⟩, ⟨[], [], .nop⟩] [none, none, some 1, none, none, none])
 (.ret))))))⟩

/-- loop.example/g03401/laws.markIntS -/
def ir_laws_markIntS : IF := ⟨2, 5, [2, 0],
 (.seq (.reg [⟨[], [], .cs .v (.n 0)⟩] [some 0, some 1, none, none, none])
 ((.seq ((.seq (.reg [⟨[], [], .cs .v (.n 0)⟩] [some 0, some 1, none, some 5, none])
 (.block 0 (.loop ((.seq ((.seq (.reg [⟨[], [], .nop⟩, ⟨[], [], .nop⟩, ⟨[], [], .ln (.e 0) []⟩, ⟨[], [], .bi .lss (.e 3) (.e 5)⟩] [some 0, some 1, none, some 3, some 6])
   (.cond 4 (.skip) (.exit 0))))
   ((.seq (.block 1 ((.seq (.reg [⟨[], [], .nop⟩, ⟨[], [], .nop⟩, ⟨[], [], .nop⟩, ⟨[], [], .ix (.e 0) [] (.e 3)⟩, ⟨[], [], .up 0 [.e 3] (.e 1)⟩] [some 6, some 1, none, some 3, none])
    (.reg [⟨[], [], .nop⟩, ⟨[], [], .bi .add (.e 1) (.c (.n 1))⟩, ⟨[], [], .nop⟩] [some 0, some 5, none, some 3, none]))))
   (.reg [⟨[], [], .nop⟩, ⟨[], [], .bi .add (.e 3) (.c (.n 1))⟩, ⟨[], [], .nop⟩] [some 0, some 1, none, some 5, none])))))))))
 ((.seq (.reg [⟨[], [], .nop⟩, ⟨[], [], .nop⟩] [some 0, none, some 1, none, none])
 (.ret))))))⟩

/-- loop.example/g03401/laws.markStringS -/
def ir_laws_markStringS : IF := ⟨2, 5, [2, 0],
 (.seq (.reg [⟨[], [], .cs .v (.n 0)⟩] [some 0, some 1, none, none, none])
 ((.seq ((.seq (.reg [⟨[], [], .cs .v (.n 0)⟩] [some 0, some 1, none, some 5, none])
 (.block 0 (.loop ((.seq ((.seq (.reg [⟨[], [], .nop⟩, ⟨[], [], .nop⟩, ⟨[], [], .ln (.e 0) []⟩, ⟨[], [], .bi .lss (.e 3) (.e 5)⟩] [some 0, some 1, none, some 3, some 6])
   (.cond 4 (.skip) (.exit 0))))
   ((.seq (.block 1 ((.seq (.reg [⟨[], [], .nop⟩, ⟨[], [], .nop⟩, ⟨[], [], .nop⟩, ⟨[], [], .ca 26 [(.e 1)] 1⟩, ⟨[], [], .ix (.e 0) [] (.e 3)⟩, ⟨[], [], .up 0 [.e 3] (.e 5)⟩] [some 7, some 1, none, some 3, none])
    (.reg [⟨[], [], .nop⟩, ⟨[], [], .bi .add (.e 1) (.c (.n 1))⟩, ⟨[], [], .nop⟩] [some 0, some 5, none, some 3, none]))))
   (.reg [⟨[], [], .nop⟩, ⟨[], [], .bi .add (.e 3) (.c (.n 1))⟩, ⟨[], [], .nop⟩] [some 0, some 1, none, some 5, none])))))))))
 ((.seq (.reg [⟨[], [], .nop⟩, ⟨[], [], .nop⟩] [some 0, none, some 1, none, none])
 (.ret))))))⟩

/-- loop.example/g03401/laws.markText -/
def ir_laws_markText : IF := ⟨1, 5, [1],
 (.seq (.reg [⟨[], [], .cs .v (.s [])⟩] [some 0, none, none, none, none])
 ((.seq ((.seq (.reg [⟨[], [], .nop⟩, ⟨[], [], .bi .leq (.e 0) (.c (.n 0))⟩] [some 0, none, none, some 5, none])
 (.cond 3 ((.seq (.reg [⟨[], [], .cs .v (.s [109, 48])⟩] [none, some 5, none, none, none])
  (.ret))) (.skip))))
 ((.seq (.reg [⟨[], [], .cs .v (.s [])⟩] [some 0, none, some 5, none, none])
 ((.seq (.block 0 (.loop ((.seq ((.seq (.reg [⟨[], [], .nop⟩, ⟨[], [], .bi .gtr (.e 0) (.c (.n 0))⟩] [some 0, none, some 2, none, some 5])
   (.cond 4 (.skip) (.exit 0))))
   (.block 1 ((.seq (.reg [⟨[], [], .nop⟩, ⟨[], [], .bi .rem (.e 0) (.c (.n 10))⟩, ⟨[], [], .bi .add (.c (.n 48)) (.e 5)⟩, ⟨[], [], .cv .u8 (.e 6)⟩, ⟨[], [], .li (.o .v) [(.e 7)]⟩, ⟨[], [], .bs (.e 8)⟩, ⟨[], [], .nop⟩, ⟨[], [], .bi .add (.e 9) (.e 2)⟩, ⟨[], [], .nop⟩] [some 0, none, some 10, none, none])
    (.reg [⟨[], [], .nop⟩, ⟨[], [], .bi .quo (.e 0) (.c (.n 10))⟩, ⟨[], [], .nop⟩] [some 5, none, some 2, none, none]))))))))
 ((.seq (.reg [⟨[], [], .nop⟩, ⟨[], [], .bi .add (.c (.s [109])) (.e 2)⟩, ⟨[], [], .nop⟩] [none, some 5, none, none, none])
 (.ret))))))))))⟩

/-- loop.example/g03401/laws.szIntS -/
def ir_laws_szIntS : IF := ⟨2, 4, [2],
 (.seq (.reg [⟨[], [], .cs .v (.n 0)⟩] [some 0, some 1, none, none])
 ((.seq (.reg [⟨[], [], .nop⟩, ⟨[], [], .nop⟩, ⟨[], [], .ln (.e 0) []⟩, ⟨[], [], .bi .sub (.e 1) (.e 4)⟩, ⟨[], [], .nop⟩] [none, some 5, none, none])
 ((.seq ((.seq (.reg [⟨[], [], .nop⟩, ⟨[], [], .bi .lss (.e 1) (.c (.n 0))⟩] [none, some 1, none, some 4])
 (.cond 3 ((.seq (.reg [⟨[], [], .cs .v (.n (-1))⟩] [none, none, some 4, none])
  (.ret))) (.skip))))
 ((.seq (.reg [⟨[], [], .nop⟩, ⟨[], [], .nop⟩] [none, none, some 1, none])
 (.ret))))))))⟩

/-- loop.example/g03401/laws.szIntSS -/
def ir_laws_szIntSS : IF := ⟨2, 7, [2],
 (.seq (.reg [⟨[], [], .cs .v (.n 0)⟩] [some 0, some 1, none, none, none, none, none])
 ((.seq (.reg [⟨[], [], .nop⟩, ⟨[], [], .nop⟩, ⟨[], [], .ln (.e 0) []⟩, ⟨[], [], .bi .sub (.e 1) (.e 7)⟩, ⟨[], [], .nop⟩] [some 0, some 8, none, none, none, none, none])
 ((.seq ((.seq (.reg [⟨[], [], .nop⟩, ⟨[], [], .bi .lss (.e 1) (.c (.n 0))⟩] [some 0, some 1, none, none, some 7, none, none])
 (.cond 4 ((.seq (.reg [⟨[], [], .cs .v (.n (-1))⟩] [none, none, some 7, none, none, none, none])
  (.ret))) (.skip))))
 ((.seq ((.seq (.reg [⟨[], [], .cs .v (.n 0)⟩] [some 0, some 1, none, some 7, none, none, none])
 (.block 0 (.loop ((.seq ((.seq (.reg [⟨[], [], .nop⟩, ⟨[], [], .nop⟩, ⟨[], [], .ln (.e 0) []⟩, ⟨[], [], .bi .lss (.e 3) (.e 7)⟩] [some 0, some 1, none, some 3, none, some 8, none])
   (.cond 5 (.skip) (.exit 0))))
   ((.seq (.block 1 ((.seq (.reg [⟨[], [], .nop⟩, ⟨[], [], .nop⟩, ⟨[], [], .ix (.e 0) [] (.e 3)⟩, ⟨[], [], .nop⟩, ⟨[], [], .nop⟩, ⟨[], [], .ca 146 [(.e 7), (.e 1)] 1⟩, ⟨[], [], .nop⟩] [some 0, some 8, none, some 3, none, none, none])
    ((.seq (.reg [⟨[], [], .nop⟩, ⟨[], [], .bi .lss (.e 1) (.c (.n 0))⟩] [some 0, some 1, none, some 3, none, none, some 7])
    (.cond 6 ((.seq (.reg [⟨[], [], .cs .v (.n (-1))⟩] [none, none, some 7, none, none, none, none])
     (.ret))) (.skip)))))))
   (.reg [⟨[], [], .nop⟩, ⟨[], [], .bi .add (.e 3) (.c (.n 1))⟩, ⟨[], [], .nop⟩] [some 0, some 1, none, some 7, none, none, none])))))))))
 ((.seq (.reg [⟨[], [], .nop⟩, ⟨[], [], .nop⟩] [none, none, some 1, none, none, none, none])
 (.ret))))))))))⟩

/-- loop.example/g03401/laws.szStringS -/
def ir_laws_szStringS : IF := ⟨2, 7, [2],
 (.seq (.reg [⟨[], [], .cs .v (.n 0)⟩] [some 0, some 1, none, none, none, none, none])
 ((.seq (.reg [⟨[], [], .nop⟩, ⟨[], [], .nop⟩, ⟨[], [], .ln (.e 0) []⟩, ⟨[], [], .bi .sub (.e 1) (.e 7)⟩, ⟨[], [], .nop⟩] [some 0, some 8, none, none, none, none, none])
 ((.seq ((.seq (.reg [⟨[], [], .nop⟩, ⟨[], [], .bi .lss (.e 1) (.c (.n 0))⟩] [some 0, some 1, none, none, some 7, none, none])
 (.cond 4 ((.seq (.reg [⟨[], [], .cs .v (.n (-1))⟩] [none, none, some 7, none, none, none, none])
  (.ret))) (.skip))))
 ((.seq ((.seq (.reg [⟨[], [], .cs .v (.n 0)⟩] [some 0, some 1, none, some 7, none, none, none])
 (.block 0 (.loop ((.seq ((.seq (.reg [⟨[], [], .nop⟩, ⟨[], [], .nop⟩, ⟨[], [], .ln (.e 0) []⟩, ⟨[], [], .bi .lss (.e 3) (.e 7)⟩] [some 0, some 1, none, some 3, none, some 8, none])
   (.cond 5 (.skip) (.exit 0))))
   ((.seq (.block 1 ((.seq (.reg [⟨[], [], .nop⟩, ⟨[], [], .nop⟩, ⟨[], [], .nop⟩, ⟨[], [], .iy (.e 0) (.e 3)⟩, ⟨[], [], .nop⟩, ⟨[], [], .sn (.e 7)⟩, ⟨[], [], .bi .sub (.e 1) (.e 8)⟩, ⟨[], [], .nop⟩] [some 0, some 9, none, some 3, none, none, none])
    ((.seq (.reg [⟨[], [], .nop⟩, ⟨[], [], .bi .lss (.e 1) (.c (.n 0))⟩] [some 0, some 1, none, some 3, none, none, some 7])
    (.cond 6 ((.seq (.reg [⟨[], [], .cs .v (.n (-1))⟩] [none, none, some 7, none, none, none, none])
     (.ret))) (.skip)))))))
   (.reg [⟨[], [], .nop⟩, ⟨[], [], .bi .add (.e 3) (.c (.n 1))⟩, ⟨[], [], .nop⟩] [some 0, some 1, none, some 7, none, none, none])))))))))
 ((.seq (.reg [⟨[], [], .nop⟩, ⟨[], [], .nop⟩] [none, none, some 1, none, none, none, none])
 (.ret))))))))))⟩

/-- loop.example/g03401/laws.toIntS -/
def ir_laws_toIntS : IF := ⟨1, 5, [1],
 (.seq (.reg [⟨[], [], .cs (.o .v) (.l [])⟩] [some 0, none, none, none, none])
 ((.seq (.reg [⟨[], [], .nop⟩, ⟨[], [], .ln (.e 0) []⟩, ⟨[], [], .mk (.n 0) (.e 5) (.e 5)⟩, ⟨[], [], .nop⟩] [some 0, none, some 6, none, none])
 ((.seq ((.seq (.reg [⟨[], [], .cs .v (.n 0)⟩] [some 0, none, some 2, some 5, none])
 (.block 0 (.loop ((.seq ((.seq (.reg [⟨[], [], .nop⟩, ⟨[], [], .nop⟩, ⟨[], [], .ln (.e 0) []⟩, ⟨[], [], .bi .lss (.e 3) (.e 5)⟩] [some 0, none, some 2, some 3, some 6])
   (.cond 4 (.skip) (.exit 0))))
   ((.seq (.block 1 (.reg [⟨[], [], .nop⟩, ⟨[], [], .nop⟩, ⟨[], [], .nop⟩, ⟨[], [], .nop⟩, ⟨[], [], .iy (.e 0) (.e 3)⟩, ⟨[], [], .nop⟩, ⟨[], [], .ix (.e 2) [] (.e 3)⟩, ⟨[], [], .up 2 [.e 3] (.e 5)⟩] [some 0, none, some 7, some 3, none]))
   (.reg [⟨[], [], .nop⟩, ⟨[], [], .bi .add (.e 3) (.c (.n 1))⟩, ⟨[], [], .nop⟩] [some 0, none, some 2, some 5, none])))))))))
 ((.seq (.reg [⟨[], [], .nop⟩, ⟨[], [], .nop⟩] [none, some 2, none, none, none])
 (.ret))))))))⟩

/-- loop.example/g03401/laws.toIntSS -/
def ir_laws_toIntSS : IF := ⟨1, 5, [1],
 (.seq (.reg [⟨[], [], .cs (.o .v) (.l [])⟩] [some 0, none, none, none, none])
 ((.seq (.reg [⟨[], [], .nop⟩, ⟨[], [], .ln (.e 0) []⟩, ⟨[], [], .mk (.l []) (.e 5) (.e 5)⟩, ⟨[], [], .nop⟩] [some 0, none, some 6, none, none])
 ((.seq ((.seq (.reg [⟨[], [], .cs .v (.n 0)⟩] [some 0, none, some 2, some 5, none])
 (.block 0 (.loop ((.seq ((.seq (.reg [⟨[], [], .nop⟩, ⟨[], [], .nop⟩, ⟨[], [], .ln (.e 0) []⟩, ⟨[], [], .bi .lss (.e 3) (.e 5)⟩] [some 0, none, some 2, some 3, some 6])
   (.cond 4 (.skip) (.exit 0))))
   ((.seq (.block 1 (.reg [⟨[], [], .nop⟩, ⟨[], [], .nop⟩, ⟨[], [], .nop⟩, ⟨[], [], .nop⟩, ⟨[], [], .ix (.e 0) [] (.e 3)⟩, ⟨[], [], .nop⟩, ⟨[], [], .ca 42 [(.e 5)] 1⟩, ⟨[], [], .ix (.e 2) [] (.e 3)⟩, ⟨[], [], .up 2 [.e 3] (.e 6)⟩] [some 0, none, some 8, some 3, none]))
   (.reg [⟨[], [], .nop⟩, ⟨[], [], .bi .add (.e 3) (.c (.n 1))⟩, ⟨[], [], .nop⟩] [some 0, none, some 2, some 5, none])))))))))
 ((.seq (.reg [⟨[], [], .nop⟩, ⟨[], [], .nop⟩] [none, some 2, none, none, none])
 (.ret))))))))⟩

/-- loop.example/g03401/laws.toStringS -/
def ir_laws_toStringS : IF := ⟨1, 5, [1],
 (.seq (.reg [⟨[], [], .cs (.o .v) (.l [])⟩] [some 0, none, none, none, none])
 ((.seq (.reg [⟨[], [], .nop⟩, ⟨[], [], .ln (.e 0) []⟩, ⟨[], [], .mk (.s []) (.e 5) (.e 5)⟩, ⟨[], [], .nop⟩] [some 0, none, some 6, none, none])
 ((.seq ((.seq (.reg [⟨[], [], .cs .v (.n 0)⟩] [some 0, none, some 2, some 5, none])
 (.block 0 (.loop ((.seq ((.seq (.reg [⟨[], [], .nop⟩, ⟨[], [], .nop⟩, ⟨[], [], .ln (.e 0) []⟩, ⟨[], [], .bi .lss (.e 3) (.e 5)⟩] [some 0, none, some 2, some 3, some 6])
   (.cond 4 (.skip) (.exit 0))))
   ((.seq (.block 1 (.reg [⟨[], [], .nop⟩, ⟨[], [], .nop⟩, ⟨[], [], .nop⟩, ⟨[], [], .nop⟩, ⟨[], [], .iy (.e 0) (.e 3)⟩, ⟨[], [], .nop⟩, ⟨[], [], .ix (.e 2) [] (.e 3)⟩, ⟨[], [], .up 2 [.e 3] (.e 5)⟩] [some 0, none, some 7, some 3, none]))
   (.reg [⟨[], [], .nop⟩, ⟨[], [], .bi .add (.e 3) (.c (.n 1))⟩, ⟨[], [], .nop⟩] [some 0, none, some 2, some 5, none])))))))))
 ((.seq (.reg [⟨[], [], .nop⟩, ⟨[], [], .nop⟩] [none, some 2, none, none, none])
 (.ret))))))))⟩

end Go.Cat

namespace Go.Cat
/-- loop.example/g03401/impl.FormatInt -/
def ir_impl_FormatInt : IF := ⟨1, 12, [1],
 (.seq (.reg [⟨[], [], .cs .v (.s [])⟩] [some 0, none, none, none, none, none, none, none, none, none, none, none])
 ((.seq ((.seq (.reg [⟨[], [], .nop⟩, ⟨[], [], .bi .eql (.e 0) (.c (.n 0))⟩] [some 0, none, none, none, none, none, none, some 12, none, none, none, none])
 (.cond 7 ((.seq (.reg [⟨[], [], .cs .v (.s [48])⟩] [none, some 12, none, none, none, none, none, none, none, none, none, none])
  (.ret))) (.skip))))
 ((.seq (.reg [⟨[], [], .li (.o .v) []⟩, ⟨[], [], .nop⟩] [some 0, none, some 12, none, none, none, none, none, none, none, none, none])
 ((.seq ((.seq (.reg [⟨[], [], .nop⟩, ⟨[], [], .nop⟩] [some 0, none, some 2, some 0, none, none, none, none, none, none, none, none])
 (.block 0 (.loop ((.seq ((.seq (.reg [⟨[], [], .nop⟩, ⟨[], [], .bi .neq (.e 3) (.c (.n 0))⟩] [some 0, none, some 2, some 3, none, none, none, none, some 12, none, none, none])
   (.cond 8 (.skip) (.exit 0))))
   ((.seq (.block 1 ((.seq (.reg [⟨[], [], .nop⟩, ⟨[], [], .bi .rem (.e 3) (.c (.n 10))⟩, ⟨[], [], .nop⟩] [some 0, none, some 2, some 3, some 12, none, none, none, none, none, none, none])
    ((.seq ((.seq (.reg [⟨[], [], .nop⟩, ⟨[], [], .bi .lss (.e 4) (.c (.n 0))⟩] [some 0, none, some 2, some 3, some 4, none, none, none, none, some 12, none, none])
    (.cond 9 (.reg [⟨[], [], .nop⟩, ⟨[], [], .un .neg (.e 4)⟩, ⟨[], [], .nop⟩] [some 0, none, some 2, some 3, some 12, none, none, none, none, none, none, none]) (.skip))))
    (.reg [⟨[], [], .nop⟩, ⟨[], [], .nop⟩, ⟨[], [], .bi .add (.c (.n 48)) (.e 4)⟩, ⟨[], [], .cv .u8 (.e 12)⟩, ⟨[], [], .li (.o .v) [(.e 13)]⟩, ⟨[], [], .ap false (.e 2) (.e 14)⟩, ⟨[], [], .nop⟩] [some 0, none, some 15, some 3, none, none, none, none, none, none, none, none]))))))
   (.reg [⟨[], [], .nop⟩, ⟨[], [], .bi .quo (.e 3) (.c (.n 10))⟩, ⟨[], [], .nop⟩] [some 0, none, some 2, some 12, none, none, none, none, none, none, none, none])))))))))
 ((.seq ((.seq (.reg [⟨[], [], .nop⟩, ⟨[], [], .bi .lss (.e 0) (.c (.n 0))⟩] [none, none, some 2, none, none, none, none, none, none, none, some 12, none])
 (.cond 10 (.reg [⟨[], [], .nop⟩, ⟨[], [], .li (.o .v) [(.c (.y 45))]⟩, ⟨[], [], .ap false (.e 2) (.e 12)⟩, ⟨[], [], .nop⟩] [none, none, some 13, none, none, none, none, none, none, none, none, none]) (.skip))))
 ((.seq ((.seq (.reg [⟨[], [], .nop⟩, ⟨[], [], .ln (.e 2) []⟩, ⟨[], [], .bi .sub (.e 12) (.c (.n 1))⟩, ⟨[], [], .cs .v (.n 0)⟩, ⟨[], [], .nop⟩] [none, none, some 2, none, none, some 14, some 13, none, none, none, none, none])
 (.block 2 (.loop ((.seq ((.seq (.reg [⟨[], [], .nop⟩, ⟨[], [], .nop⟩, ⟨[], [], .bi .lss (.e 5) (.e 6)⟩] [none, none, some 2, none, none, some 5, some 6, none, none, none, none, some 12])
   (.cond 11 (.skip) (.exit 2))))
   ((.seq (.block 3 (.reg [⟨[], [], .nop⟩, ⟨[], [], .nop⟩, ⟨[], [], .nop⟩, ⟨[], [], .nop⟩, ⟨[], [], .nop⟩, ⟨[], [], .nop⟩, ⟨[], [], .ix (.e 2) [] (.e 6)⟩, ⟨[], [], .nop⟩, ⟨[], [], .nop⟩, ⟨[], [], .nop⟩, ⟨[], [], .ix (.e 2) [] (.e 5)⟩, ⟨[], [], .nop⟩, ⟨[], [], .ix (.e 2) [] (.e 5)⟩, ⟨[], [], .up 2 [.e 5] (.e 12)⟩, ⟨[], [], .ix (.e 15) [] (.e 6)⟩, ⟨[], [], .up 15 [.e 6] (.e 13)⟩] [none, none, some 17, none, none, some 5, some 6, none, none, none, none, none]))
   (.reg [⟨[], [], .nop⟩, ⟨[], [], .bi .add (.e 5) (.c (.n 1))⟩, ⟨[], [], .nop⟩, ⟨[], [], .bi .sub (.e 6) (.c (.n 1))⟩, ⟨[], [], .nop⟩, ⟨[], [], .nop⟩] [none, none, some 2, none, none, some 12, some 13, none, none, none, none, none])))))))))
 ((.seq (.reg [⟨[], [], .nop⟩, ⟨[], [], .bs (.e 2)⟩, ⟨[], [], .nop⟩] [none, some 12, none, none, none, none, none, none, none, none, none, none])
 (.ret))))))))))))))⟩

/-- loop.example/g03401/impl.within -/
def ir_impl_within : IF := ⟨3, 4, [3],
 (.seq (.reg [⟨[], [], .cs .v (.b false)⟩] [some 0, some 1, some 2, none])
 ((.seq (.reg [⟨[], [], .nop⟩, ⟨[], [], .nop⟩, ⟨[], [], .bi .geq (.e 0) (.e 1)⟩, ⟨[], [], .nop⟩, ⟨[], [(4, true)], .cy (.e 0)⟩, ⟨[], [(4, true)], .cy (.e 2)⟩, ⟨[], [(4, true)], .bi .leq (.e 5) (.e 6)⟩, ⟨[], [], .pk (.e 4) (.e 7) (.c (.b false))⟩, ⟨[], [], .nop⟩] [none, none, none, some 8])
 (.ret))))⟩

end Go.Cat

namespace Go.Cat
/-- loop.example/g03401/impl.IsDyck -/
def ir_impl_IsDyck : IF := ⟨1, 4, [1],
 (.seq (.reg [⟨[], [], .cs .v (.b false)⟩] [some 0, none, none, none])
 ((.seq ((.seq (.reg [⟨[], [], .nop⟩, ⟨[], [], .sn (.e 0)⟩, ⟨[], [], .bi .gtr (.e 4) (.c (.n 16))⟩] [some 0, none, none, some 5])
 (.cond 3 ((.seq (.reg [⟨[], [], .cs .v (.b false)⟩] [none, some 4, none, none])
  (.ret))) (.skip))))
 ((.seq (.reg [⟨[], [], .nop⟩, ⟨[], [], .ca 82 [(.e 0)] 2⟩, ⟨[], [], .nop⟩, ⟨[], [], .nop⟩, ⟨[], [], .nop⟩, ⟨[], [], .nop⟩, ⟨[], [], .nop⟩] [none, none, some 5, none])
 ((.seq (.reg [⟨[], [], .nop⟩, ⟨[], [], .nop⟩] [none, some 2, none, none])
 (.ret))))))))⟩

/-- loop.example/g03401/impl.SizeOf -/
def ir_impl_SizeOf : IF := ⟨1, 3, [1],
 (.seq (.reg [⟨[], [], .cs .v (.n 0)⟩] [some 0, none, none])
 ((.seq ((.seq (.reg [⟨[], [], .nop⟩, ⟨[], [], .ca 67 [(.e 0)] 1⟩, ⟨[], [], .un .not (.e 3)⟩] [some 0, none, some 4])
 (.cond 2 ((.seq (.reg [⟨[], [], .cs .v (.n (-1))⟩] [none, some 3, none])
  (.ret))) (.skip))))
 ((.seq (.reg [⟨[], [], .nop⟩, ⟨[], [], .sn (.e 0)⟩, ⟨[], [], .bi .quo (.e 3) (.c (.n 2))⟩, ⟨[], [], .nop⟩] [none, some 4, none])
 (.ret))))))⟩

/-- loop.example/g03401/impl.copyInts -/
def ir_impl_copyInts : IF := ⟨1, 2, [1],
 (.seq (.reg [⟨[], [], .cs (.o .v) (.l [])⟩] [some 0, none])
 ((.seq (.reg [⟨[], [], .li (.o .v) []⟩, ⟨[], [], .nop⟩, ⟨[], [], .ap true (.e 2) (.e 0)⟩, ⟨[], [], .nop⟩] [none, some 3])
 (.ret))))⟩

/-- loop.example/g03401/impl.equalInts -/
def ir_impl_equalInts : IF := ⟨2, 9, [2],
 (.seq (.reg [⟨[], [], .cs .v (.b false)⟩] [some 0, some 1, none, none, none, none, none, none, none])
 ((.seq ((.seq (.reg [⟨[], [], .nop⟩, ⟨[], [], .ln (.e 0) []⟩, ⟨[], [], .nop⟩, ⟨[], [], .ln (.e 1) []⟩, ⟨[], [], .bi .neq (.e 9) (.e 10)⟩] [some 0, some 1, none, none, some 11, none, none, none, none])
 (.cond 4 ((.seq (.reg [⟨[], [], .cs .v (.b false)⟩] [none, none, some 9, none, none, none, none, none, none])
  (.ret))) (.skip))))
 ((.seq ((.seq (.reg [⟨[], [], .nop⟩, ⟨[], [], .ln (.e 0) []⟩, ⟨[], [], .cs .v (.n 0)⟩] [some 0, some 1, none, none, none, some 9, some 10, none, none])
 (.block 0 (.loop ((.seq (.reg [⟨[], [], .bi .lss (.e 6) (.e 5)⟩] [some 0, some 1, none, none, none, some 5, some 6, some 9, none])
   ((.seq (.cond 7 (.skip) (.exit 0))
   ((.seq (.block 1 ((.seq (.reg [⟨[], [], .nop⟩, ⟨[], [], .nop⟩] [some 0, some 1, none, some 6, none, some 5, some 6, none, none])
    ((.seq (.reg [⟨[], [], .nop⟩, ⟨[], [], .nop⟩, ⟨[], [], .iy (.e 0) (.e 3)⟩, ⟨[], [], .nop⟩, ⟨[], [], .nop⟩, ⟨[], [], .nop⟩, ⟨[], [], .iy (.e 1) (.e 3)⟩, ⟨[], [], .nop⟩, ⟨[], [], .bi .neq (.e 9) (.e 10)⟩] [some 0, some 1, none, none, none, some 5, some 6, none, some 11])
    (.cond 8 ((.seq (.reg [⟨[], [], .cs .v (.b false)⟩] [none, none, some 9, none, none, none, none, none, none])
     (.ret))) (.skip)))))))
   (.reg [⟨[], [], .bi .add (.e 6) (.c (.n 1))⟩, ⟨[], [], .nop⟩] [some 0, some 1, none, none, none, some 5, some 9, none, none])))))))))))
 ((.seq (.reg [⟨[], [], .cs .v (.b true)⟩] [none, none, some 9, none, none, none, none, none, none])
 (.ret))))))))⟩

/-- loop.example/g03401/impl.glued -/
def ir_impl_glued : IF := ⟨2, 11, [2],
 (.seq (.reg [⟨[], [], .cs .v (.s [])⟩] [some 0, some 1, none, none, none, none, none, none, none, none, none])
 ((.seq (.reg [⟨[], [], .cs .v (.s [])⟩] [some 0, some 1, none, some 11, none, none, none, none, none, none, none])
 ((.seq ((.seq (.reg [⟨[], [], .nop⟩, ⟨[], [], .ln (.e 0) []⟩, ⟨[], [], .cs .v (.n 0)⟩] [none, some 1, none, some 3, none, none, some 0, some 11, some 12, none, none])
 (.block 0 (.loop ((.seq (.reg [⟨[], [], .bi .lss (.e 8) (.e 7)⟩] [none, some 1, none, some 3, none, none, some 6, some 7, some 8, some 11, none])
   ((.seq (.cond 9 (.skip) (.exit 0))
   ((.seq (.block 1 ((.seq (.reg [⟨[], [], .nop⟩, ⟨[], [], .iy (.e 6) (.e 8)⟩, ⟨[], [], .nop⟩, ⟨[], [], .nop⟩, ⟨[], [], .nop⟩] [none, some 1, none, some 3, some 8, some 11, some 6, some 7, some 8, none, none])
    ((.seq ((.seq (.reg [⟨[], [], .nop⟩, ⟨[], [], .bi .gtr (.e 4) (.c (.n 0))⟩] [none, some 1, none, some 3, none, some 5, some 6, some 7, some 8, none, some 11])
    (.cond 10 (.reg [⟨[], [], .nop⟩, ⟨[], [], .nop⟩, ⟨[], [], .bi .add (.e 3) (.e 1)⟩, ⟨[], [], .nop⟩] [none, some 1, none, some 11, none, some 5, some 6, some 7, some 8, none, none]) (.skip))))
    (.reg [⟨[], [], .nop⟩, ⟨[], [], .nop⟩, ⟨[], [], .bi .add (.e 3) (.e 5)⟩, ⟨[], [], .nop⟩] [none, some 1, none, some 11, none, none, some 6, some 7, some 8, none, none]))))))
   (.reg [⟨[], [], .bi .add (.e 8) (.c (.n 1))⟩, ⟨[], [], .nop⟩] [none, some 1, none, some 3, none, none, some 6, some 7, some 11, none, none])))))))))))
 ((.seq (.reg [⟨[], [], .nop⟩, ⟨[], [], .nop⟩] [none, none, some 3, none, none, none, none, none, none, none, none])
 (.ret))))))))⟩

/-- loop.example/g03401/impl.heights -/
def ir_impl_heights : IF := ⟨1, 11, [1, 2],
 (.seq (.reg [⟨[], [], .cs (.o .v) (.l [])⟩, ⟨[], [], .cs .v (.b false)⟩] [some 0, none, none, none, none, none, none, none, none, none, none])
 ((.seq (.reg [⟨[], [], .li (.o .v) [(.c (.n 0))]⟩, ⟨[], [], .nop⟩] [some 0, none, none, some 11, none, none, none, none, none, none, none])
 ((.seq (.reg [⟨[], [], .cs .v (.n 0)⟩] [some 0, none, none, some 3, some 11, none, none, none, none, none, none])
 ((.seq ((.seq (.reg [⟨[], [], .cs .v (.n 0)⟩] [some 0, none, none, some 3, some 4, some 11, none, none, none, none, none])
 (.block 0 (.loop ((.seq ((.seq (.reg [⟨[], [], .nop⟩, ⟨[], [], .nop⟩, ⟨[], [], .sn (.e 0)⟩, ⟨[], [], .bi .lss (.e 5) (.e 11)⟩] [some 0, none, none, some 3, some 4, some 5, some 12, none, none, none, none])
   (.cond 6 (.skip) (.exit 0))))
   ((.seq (.block 1 ((.seq ((.seq (.reg [⟨[], [], .nop⟩, ⟨[], [], .nop⟩, ⟨[], [], .sx (.e 0) (.e 5)⟩] [some 0, none, none, some 3, some 4, some 5, none, some 11, none, none, none])
    (.block 2 ((.seq (.reg [⟨[], [], .bi .eql (.e 7) (.c (.y 117))⟩, ⟨[], [], .nop⟩] [some 0, none, none, some 3, some 4, some 5, none, some 7, some 11, none, none])
     (.cond 8 (.reg [⟨[], [], .nop⟩, ⟨[], [], .bi .add (.e 4) (.c (.n 1))⟩, ⟨[], [], .nop⟩] [some 0, none, none, some 3, some 11, some 5, none, none, none, none, none]) ((.seq (.reg [⟨[], [], .bi .eql (.e 7) (.c (.y 100))⟩, ⟨[], [], .nop⟩] [some 0, none, none, some 3, some 4, some 5, none, none, none, some 11, none])
      (.cond 9 (.reg [⟨[], [], .nop⟩, ⟨[], [], .bi .sub (.e 4) (.c (.n 1))⟩, ⟨[], [], .nop⟩] [some 0, none, none, some 3, some 11, some 5, none, none, none, none, none]) ((.seq (.reg [⟨[], [], .cs (.o .v) (.l [])⟩, ⟨[], [], .cs .v (.b false)⟩] [none, some 11, some 12, none, none, none, none, none, none, none, none])
       (.ret))))))))))))
    ((.seq ((.seq (.reg [⟨[], [], .nop⟩, ⟨[], [], .bi .lss (.e 4) (.c (.n 0))⟩] [some 0, none, none, some 3, some 4, some 5, none, none, none, none, some 11])
    (.cond 10 ((.seq (.reg [⟨[], [], .cs (.o .v) (.l [])⟩, ⟨[], [], .cs .v (.b false)⟩] [none, some 11, some 12, none, none, none, none, none, none, none, none])
     (.ret))) (.skip))))
    (.reg [⟨[], [], .nop⟩, ⟨[], [], .nop⟩, ⟨[], [], .li (.o .v) [(.e 4)]⟩, ⟨[], [], .ap false (.e 3) (.e 11)⟩, ⟨[], [], .nop⟩] [some 0, none, none, some 12, some 4, some 5, none, none, none, none, none]))))))
   (.reg [⟨[], [], .nop⟩, ⟨[], [], .bi .add (.e 5) (.c (.n 1))⟩, ⟨[], [], .nop⟩] [some 0, none, none, some 3, some 4, some 11, none, none, none, none, none])))))))))
 ((.seq (.reg [⟨[], [], .nop⟩, ⟨[], [], .nop⟩, ⟨[], [], .bi .eql (.e 4) (.c (.n 0))⟩, ⟨[], [], .nop⟩, ⟨[], [], .nop⟩] [none, some 3, some 11, none, none, none, none, none, none, none, none])
 (.ret))))))))))⟩

end Go.Cat

namespace Go.Cat
/-- loop.example/g03401/impl.Contains231 -/
def ir_impl_Contains231 : IF := ⟨1, 2, [1],
 (.seq (.reg [⟨[], [], .cs .v (.b false)⟩] [some 0, none])
 ((.seq (.reg [⟨[], [], .nop⟩, ⟨[], [], .ca 205 [(.e 0), (.c (.f 206 []))] 1⟩, ⟨[], [], .nop⟩] [none, some 2])
 (.ret))))⟩

/-- loop.example/g03401/impl.Contains231$1 -/
def ir_impl_Contains231_f1 : IF := ⟨3, 4, [3],
 (.seq (.reg [⟨[], [], .cs .v (.b false)⟩] [some 0, some 1, some 2, none])
 ((.seq (.reg [⟨[], [], .nop⟩, ⟨[], [], .nop⟩, ⟨[], [], .bi .lss (.e 2) (.e 0)⟩, ⟨[], [], .nop⟩, ⟨[], [(4, true)], .cy (.e 0)⟩, ⟨[], [(4, true)], .cy (.e 1)⟩, ⟨[], [(4, true)], .bi .lss (.e 5) (.e 6)⟩, ⟨[], [], .pk (.e 4) (.e 7) (.c (.b false))⟩, ⟨[], [], .nop⟩] [none, none, none, some 8])
 (.ret))))⟩

/-- loop.example/g03401/impl.IsPermutation -/
def ir_impl_IsPermutation : IF := ⟨1, 10, [1],
 (.seq (.reg [⟨[], [], .cs .v (.b false)⟩] [some 0, none, none, none, none, none, none, none, none, none])
 ((.seq ((.seq (.reg [⟨[], [], .nop⟩, ⟨[], [], .ln (.e 0) []⟩, ⟨[], [], .bi .gtr (.e 10) (.c (.n 8))⟩] [some 0, none, none, none, some 11, none, none, none, none, none])
 (.cond 4 ((.seq (.reg [⟨[], [], .cs .v (.b false)⟩] [none, some 10, none, none, none, none, none, none, none, none])
  (.ret))) (.skip))))
 ((.seq (.reg [⟨[], [], .nop⟩, ⟨[], [], .ln (.e 0) []⟩, ⟨[], [], .mk (.b false) (.e 10) (.e 10)⟩, ⟨[], [], .nop⟩] [some 0, none, some 11, none, none, none, none, none, none, none])
 ((.seq ((.seq (.reg [⟨[], [], .nop⟩, ⟨[], [], .ln (.e 0) []⟩, ⟨[], [], .cs .v (.n 0)⟩] [some 0, none, some 2, none, none, some 0, some 10, some 11, none, none])
 (.block 0 (.loop ((.seq (.reg [⟨[], [], .bi .lss (.e 7) (.e 6)⟩] [some 0, none, some 2, none, none, some 5, some 6, some 7, some 10, none])
   ((.seq (.cond 8 (.skip) (.exit 0))
   ((.seq (.block 1 ((.seq (.reg [⟨[], [], .iy (.e 5) (.e 7)⟩, ⟨[], [], .nop⟩, ⟨[], [], .nop⟩] [some 0, none, some 2, some 10, none, some 5, some 6, some 7, none, none])
    ((.seq ((.seq (.reg [⟨[], [], .nop⟩, ⟨[], [], .nop⟩, ⟨[], [], .ln (.e 0) []⟩, ⟨[], [], .bi .sub (.e 10) (.c (.n 1))⟩, ⟨[], [], .ca 23 [(.e 3), (.c (.n 0)), (.e 11)] 1⟩, ⟨[], [], .un .not (.e 12)⟩, ⟨[], [], .nop⟩, ⟨[], [(13, false)], .nop⟩, ⟨[], [(13, false)], .cy (.e 3)⟩, ⟨[], [(13, false)], .ix (.e 2) [] (.e 14)⟩, ⟨[], [(13, false)], .nop⟩, ⟨[], [], .pk (.e 13) (.c (.b true)) (.e 15)⟩] [some 0, none, some 2, some 3, none, some 5, some 6, some 7, none, some 16])
    (.cond 9 ((.seq (.reg [⟨[], [], .cs .v (.b false)⟩] [none, some 10, none, none, none, none, none, none, none, none])
     (.ret))) (.skip))))
    (.reg [⟨[], [], .nop⟩, ⟨[], [], .nop⟩, ⟨[], [], .ix (.e 2) [] (.e 3)⟩, ⟨[], [], .up 2 [.e 3] (.c (.b true))⟩] [some 0, none, some 11, none, none, some 5, some 6, some 7, none, none]))))))
   (.reg [⟨[], [], .bi .add (.e 7) (.c (.n 1))⟩, ⟨[], [], .nop⟩] [some 0, none, some 2, none, none, some 5, some 6, some 10, none, none])))))))))))
 ((.seq (.reg [⟨[], [], .cs .v (.b true)⟩] [none, some 10, none, none, none, none, none, none, none, none])
 (.ret))))))))))⟩

/-- loop.example/g03401/impl.PathOfPermutation -/
def ir_impl_PathOfPermutation : IF := ⟨1, 12, [1, 2],
 (.seq (.reg [⟨[], [], .cs .v (.s [])⟩, ⟨[], [], .cs .v (.b false)⟩] [some 0, none, none, none, none, none, none, none, none, none, none, none])
 ((.seq ((.seq (.reg [⟨[], [], .nop⟩, ⟨[], [], .ca 74 [(.e 0)] 1⟩, ⟨[], [], .un .not (.e 12)⟩, ⟨[], [], .nop⟩, ⟨[], [(13, false)], .nop⟩, ⟨[], [(13, false)], .ca 187 [(.e 0)] 1⟩, ⟨[], [], .pk (.e 13) (.c (.b true)) (.e 14)⟩] [some 0, none, none, none, none, none, none, some 15, none, none, none, none])
 (.cond 7 ((.seq (.reg [⟨[], [], .cs .v (.s [])⟩, ⟨[], [], .cs .v (.b false)⟩] [none, some 12, some 13, none, none, none, none, none, none, none, none, none])
  (.ret))) (.skip))))
 ((.seq (.reg [⟨[], [], .li (.o .v) []⟩, ⟨[], [], .nop⟩] [some 0, none, none, some 12, none, none, none, none, none, none, none, none])
 ((.seq (.reg [⟨[], [], .li (.o .v) []⟩, ⟨[], [], .nop⟩] [some 0, none, none, some 3, some 12, none, none, none, none, none, none, none])
 ((.seq (.reg [⟨[], [], .cs .v (.n 0)⟩] [some 0, none, none, some 3, some 4, some 12, none, none, none, none, none, none])
 ((.seq ((.seq (.reg [⟨[], [], .nop⟩, ⟨[], [], .ln (.e 0) []⟩, ⟨[], [], .cs .v (.n 0)⟩] [some 0, none, none, some 3, some 4, some 5, none, none, some 12, some 13, none, none])
 (.block 0 (.loop ((.seq (.reg [⟨[], [], .bi .lss (.e 9) (.e 8)⟩] [some 0, none, none, some 3, some 4, some 5, none, none, some 8, some 9, some 12, none])
   ((.seq (.cond 10 (.skip) (.exit 0))
   ((.seq (.block 1 ((.seq (.reg [⟨[], [], .nop⟩, ⟨[], [], .nop⟩] [some 0, none, none, some 3, some 4, some 5, some 9, none, some 8, some 9, none, none])
    ((.seq (.reg [⟨[], [], .nop⟩, ⟨[], [], .li (.o .v) [(.c (.y 117))]⟩, ⟨[], [], .ap false (.e 3) (.e 12)⟩, ⟨[], [], .nop⟩] [some 0, none, none, some 13, some 4, some 5, some 6, none, some 8, some 9, none, none])
    ((.seq (.reg [⟨[], [], .nop⟩, ⟨[], [], .nop⟩, ⟨[], [], .li (.o .v) [(.e 6)]⟩, ⟨[], [], .ap false (.e 4) (.e 12)⟩, ⟨[], [], .nop⟩] [some 0, none, none, some 3, some 13, some 5, none, none, some 8, some 9, none, none])
    (.block 2 (.loop ((.seq ((.seq (.reg [⟨[], [], .nop⟩, ⟨[], [], .ln (.e 4) []⟩, ⟨[], [], .bi .gtr (.e 12) (.c (.n 0))⟩, ⟨[], [], .nop⟩, ⟨[], [(13, true)], .nop⟩, ⟨[], [(13, true)], .nop⟩, ⟨[], [(13, true)], .nop⟩, ⟨[], [(13, true)], .ln (.e 4) []⟩, ⟨[], [(13, true)], .bi .sub (.e 14) (.c (.n 1))⟩, ⟨[], [(13, true)], .ix (.e 4) [] (.e 15)⟩, ⟨[], [(13, true)], .nop⟩, ⟨[], [(13, true)], .iy (.e 0) (.e 16)⟩, ⟨[], [(13, true)], .nop⟩, ⟨[], [(13, true)], .cy (.e 5)⟩, ⟨[], [(13, true)], .bi .eql (.e 17) (.e 18)⟩, ⟨[], [], .pk (.e 13) (.e 19) (.c (.b false))⟩] [some 0, none, none, some 3, some 4, some 5, none, none, some 8, some 9, none, some 20])
      (.cond 11 (.skip) (.exit 2))))
      (.block 3 ((.seq (.reg [⟨[], [], .nop⟩, ⟨[], [], .li (.o .v) [(.c (.y 100))]⟩, ⟨[], [], .ap false (.e 3) (.e 12)⟩, ⟨[], [], .nop⟩] [some 0, none, none, some 13, some 4, some 5, none, none, some 8, some 9, none, none])
       ((.seq (.reg [⟨[], [], .nop⟩, ⟨[], [], .nop⟩, ⟨[], [], .ln (.e 4) []⟩, ⟨[], [], .bi .sub (.e 12) (.c (.n 1))⟩, ⟨[], [], .sb true (.e 4) none (some (.e 13))⟩, ⟨[], [], .nop⟩] [some 0, none, none, some 3, some 14, some 5, none, none, some 8, some 9, none, none])
       (.reg [⟨[], [], .nop⟩, ⟨[], [], .bi .add (.e 5) (.c (.n 1))⟩, ⟨[], [], .nop⟩] [some 0, none, none, some 3, some 4, some 12, none, none, some 8, some 9, none, none])))))))))))))))))
   (.reg [⟨[], [], .bi .add (.e 9) (.c (.n 1))⟩, ⟨[], [], .nop⟩] [some 0, none, none, some 3, some 4, some 5, none, none, some 8, some 12, none, none])))))))))))
 ((.seq (.reg [⟨[], [], .nop⟩, ⟨[], [], .bs (.e 3)⟩, ⟨[], [], .nop⟩, ⟨[], [], .cs .v (.b true)⟩] [none, some 12, some 13, none, none, none, none, none, none, none, none, none])
 (.ret))))))))))))))⟩

end Go.Cat

namespace Go.Cat
/-- loop.example/g03401/impl.BubbleOnce -/
def ir_impl_BubbleOnce : IF := ⟨1, 8, [1, 2],
 (.seq (.reg [⟨[], [], .cs (.o .v) (.l [])⟩, ⟨[], [], .cs .v (.b false)⟩] [some 0, none, none, none, none, none, none, none])
 ((.seq ((.seq (.reg [⟨[], [], .nop⟩, ⟨[], [], .ca 74 [(.e 0)] 1⟩, ⟨[], [], .un .not (.e 8)⟩] [some 0, none, none, none, none, some 9, none, none])
 (.cond 5 ((.seq (.reg [⟨[], [], .li (.o .v) []⟩, ⟨[], [], .nop⟩, ⟨[], [], .cs .v (.b false)⟩] [none, some 8, some 9, none, none, none, none, none])
  (.ret))) (.skip))))
 ((.seq (.reg [⟨[], [], .nop⟩, ⟨[], [], .ca 75 [(.e 0)] 1⟩, ⟨[], [], .nop⟩] [none, none, none, some 8, none, none, none, none])
 ((.seq ((.seq (.reg [⟨[], [], .cs .v (.n 1)⟩] [none, none, none, some 3, some 8, none, none, none])
 (.block 0 (.loop ((.seq ((.seq (.reg [⟨[], [], .nop⟩, ⟨[], [], .nop⟩, ⟨[], [], .ln (.e 3) []⟩, ⟨[], [], .bi .lss (.e 4) (.e 8)⟩] [none, none, none, some 3, some 4, none, some 9, none])
   (.cond 6 (.skip) (.exit 0))))
   ((.seq (.block 1 ((.seq (.reg [⟨[], [], .nop⟩, ⟨[], [], .nop⟩, ⟨[], [], .bi .sub (.e 4) (.c (.n 1))⟩, ⟨[], [], .ix (.e 3) [] (.e 8)⟩, ⟨[], [], .nop⟩, ⟨[], [], .nop⟩, ⟨[], [], .nop⟩, ⟨[], [], .ix (.e 3) [] (.e 4)⟩, ⟨[], [], .nop⟩, ⟨[], [], .bi .gtr (.e 9) (.e 10)⟩] [none, none, none, some 3, some 4, none, none, some 11])
    (.cond 7 (.reg [⟨[], [], .nop⟩, ⟨[], [], .nop⟩, ⟨[], [], .bi .sub (.e 4) (.c (.n 1))⟩, ⟨[], [], .nop⟩, ⟨[], [], .nop⟩, ⟨[], [], .nop⟩, ⟨[], [], .nop⟩, ⟨[], [], .ix (.e 3) [] (.e 4)⟩, ⟨[], [], .nop⟩, ⟨[], [], .nop⟩, ⟨[], [], .nop⟩, ⟨[], [], .bi .sub (.e 4) (.c (.n 1))⟩, ⟨[], [], .ix (.e 3) [] (.e 10)⟩, ⟨[], [], .nop⟩, ⟨[], [], .ix (.e 3) [] (.e 8)⟩, ⟨[], [], .up 3 [.e 8] (.e 9)⟩, ⟨[], [], .ix (.e 13) [] (.e 4)⟩, ⟨[], [], .up 13 [.e 4] (.e 11)⟩] [none, none, none, some 15, some 4, none, none, none]) (.skip)))))
   (.reg [⟨[], [], .nop⟩, ⟨[], [], .bi .add (.e 4) (.c (.n 1))⟩, ⟨[], [], .nop⟩] [none, none, none, some 3, some 8, none, none, none])))))))))
 ((.seq (.reg [⟨[], [], .nop⟩, ⟨[], [], .nop⟩, ⟨[], [], .cs .v (.b true)⟩] [none, some 3, some 8, none, none, none, none, none])
 (.ret))))))))))⟩

/-- loop.example/g03401/impl.IsSortable -/
def ir_impl_IsSortable : IF := ⟨1, 4, [1],
 (.seq (.reg [⟨[], [], .cs .v (.b false)⟩] [some 0, none, none, none])
 ((.seq (.reg [⟨[], [], .nop⟩, ⟨[], [], .ca 62 [(.e 0)] 2⟩, ⟨[], [], .nop⟩, ⟨[], [], .nop⟩, ⟨[], [], .nop⟩, ⟨[], [], .nop⟩, ⟨[], [], .nop⟩] [none, none, some 4, some 5])
 ((.seq (.reg [⟨[], [], .nop⟩, ⟨[], [], .nop⟩, ⟨[], [(3, true)], .cy (.e 2)⟩, ⟨[], [(3, true)], .ca 131 [(.e 4)] 1⟩, ⟨[], [], .pk (.e 3) (.e 5) (.c (.b false))⟩, ⟨[], [], .nop⟩] [none, some 6, none, none])
 (.ret))))))⟩

/-- loop.example/g03401/impl.OutputOf -/
def ir_impl_OutputOf : IF := ⟨2, 11, [2, 3],
 (.seq (.reg [⟨[], [], .cs (.o .v) (.l [])⟩, ⟨[], [], .cs .v (.b false)⟩] [some 0, some 1, none, none, none, none, none, none, none, none, none])
 ((.seq (.reg [⟨[], [], .li (.o .v) []⟩, ⟨[], [], .nop⟩] [some 0, some 1, none, none, some 11, none, none, none, none, none, none])
 ((.seq ((.seq (.reg [⟨[], [], .nop⟩, ⟨[], [], .ca 67 [(.e 0)] 1⟩, ⟨[], [], .un .not (.e 11)⟩, ⟨[], [], .nop⟩, ⟨[], [(12, false)], .nop⟩, ⟨[], [(12, false)], .ca 74 [(.e 1)] 1⟩, ⟨[], [(12, false)], .un .not (.e 13)⟩, ⟨[], [], .pk (.e 12) (.c (.b true)) (.e 14)⟩, ⟨[], [], .nop⟩, ⟨[], [(15, false)], .nop⟩, ⟨[], [(15, false)], .ln (.e 1) []⟩, ⟨[], [(15, false)], .cy (.e 0)⟩, ⟨[], [(15, false)], .ca 132 [(.e 17)] 1⟩, ⟨[], [(15, false)], .bi .neq (.e 16) (.e 18)⟩, ⟨[], [], .pk (.e 15) (.c (.b true)) (.e 19)⟩] [some 0, some 1, none, none, some 4, none, none, none, some 20, none, none])
 (.cond 8 ((.seq (.reg [⟨[], [], .nop⟩, ⟨[], [], .nop⟩, ⟨[], [], .cs .v (.b false)⟩] [none, none, some 4, some 11, none, none, none, none, none, none, none])
  (.ret))) (.skip))))
 ((.seq (.reg [⟨[], [], .li (.o .v) []⟩, ⟨[], [], .nop⟩] [some 0, some 1, none, none, some 4, some 11, none, none, none, none, none])
 ((.seq (.reg [⟨[], [], .cs .v (.n 0)⟩] [some 0, some 1, none, none, some 4, some 5, some 11, none, none, none, none])
 ((.seq ((.seq (.reg [⟨[], [], .cs .v (.n 0)⟩] [some 0, some 1, none, none, some 4, some 5, some 6, some 11, none, none, none])
 (.block 0 (.loop ((.seq ((.seq (.reg [⟨[], [], .nop⟩, ⟨[], [], .nop⟩, ⟨[], [], .sn (.e 0)⟩, ⟨[], [], .bi .lss (.e 7) (.e 11)⟩] [some 0, some 1, none, none, some 4, some 5, some 6, some 7, none, some 12, none])
   (.cond 9 (.skip) (.exit 0))))
   ((.seq (.block 1 ((.seq ((.seq (.reg [⟨[], [], .nop⟩, ⟨[], [], .nop⟩, ⟨[], [], .sx (.e 0) (.e 7)⟩, ⟨[], [], .bi .eql (.e 11) (.c (.y 117))⟩] [some 0, some 1, none, none, some 4, some 5, some 6, some 7, none, none, some 12])
    (.cond 10 ((.seq (.reg [⟨[], [], .nop⟩, ⟨[], [], .nop⟩, ⟨[], [], .nop⟩, ⟨[], [], .iy (.e 1) (.e 6)⟩, ⟨[], [], .nop⟩, ⟨[], [], .li (.o .v) [(.e 11)]⟩, ⟨[], [], .ap false (.e 5) (.e 12)⟩, ⟨[], [], .nop⟩] [some 0, some 1, none, none, some 4, some 13, some 6, some 7, none, none, none])
     ((.seq (.reg [⟨[], [], .nop⟩, ⟨[], [], .bi .add (.e 6) (.c (.n 1))⟩, ⟨[], [], .nop⟩] [some 0, some 1, none, none, some 4, some 5, some 11, some 7, none, none, none])
     (.exit 1))))) (.skip))))
    ((.seq (.reg [⟨[], [], .nop⟩, ⟨[], [], .nop⟩, ⟨[], [], .nop⟩, ⟨[], [], .ln (.e 5) []⟩, ⟨[], [], .bi .sub (.e 11) (.c (.n 1))⟩, ⟨[], [], .ix (.e 5) [] (.e 12)⟩, ⟨[], [], .nop⟩, ⟨[], [], .li (.o .v) [(.e 13)]⟩, ⟨[], [], .ap false (.e 4) (.e 14)⟩, ⟨[], [], .nop⟩] [some 0, some 1, none, none, some 15, some 5, some 6, some 7, none, none, none])
    (.reg [⟨[], [], .nop⟩, ⟨[], [], .nop⟩, ⟨[], [], .ln (.e 5) []⟩, ⟨[], [], .bi .sub (.e 11) (.c (.n 1))⟩, ⟨[], [], .sb true (.e 5) none (some (.e 12))⟩, ⟨[], [], .nop⟩] [some 0, some 1, none, none, some 4, some 13, some 6, some 7, none, none, none]))))))
   (.reg [⟨[], [], .nop⟩, ⟨[], [], .bi .add (.e 7) (.c (.n 1))⟩, ⟨[], [], .nop⟩] [some 0, some 1, none, none, some 4, some 5, some 6, some 11, none, none, none])))))))))
 ((.seq (.reg [⟨[], [], .nop⟩, ⟨[], [], .nop⟩, ⟨[], [], .cs .v (.b true)⟩] [none, none, some 4, some 11, none, none, none, none, none, none, none])
 (.ret))))))))))))))⟩

/-- loop.example/g03401/impl.PassesOf -/
def ir_impl_PassesOf : IF := ⟨1, 5, [1],
 (.seq (.reg [⟨[], [], .cs .v (.n 0)⟩] [some 0, none, none, none, none])
 ((.seq ((.seq (.reg [⟨[], [], .nop⟩, ⟨[], [], .ca 74 [(.e 0)] 1⟩, ⟨[], [], .un .not (.e 5)⟩] [some 0, none, none, some 6, none])
 (.cond 3 ((.seq (.reg [⟨[], [], .cs .v (.n (-1))⟩] [none, some 5, none, none, none])
  (.ret))) (.skip))))
 ((.seq (.reg [⟨[], [], .cs .v (.n 0)⟩] [some 0, none, some 5, none, none])
 ((.seq (.block 0 (.loop ((.seq ((.seq (.reg [⟨[], [], .nop⟩, ⟨[], [], .ca 131 [(.e 0)] 1⟩, ⟨[], [], .un .not (.e 5)⟩] [some 0, none, some 2, none, some 6])
   (.cond 4 (.skip) (.exit 0))))
   (.block 1 ((.seq (.reg [⟨[], [], .nop⟩, ⟨[], [], .ca 62 [(.e 0)] 2⟩, ⟨[], [], .nop⟩, ⟨[], [], .nop⟩, ⟨[], [], .nop⟩, ⟨[], [], .nop⟩] [some 5, none, some 2, none, none])
    (.reg [⟨[], [], .nop⟩, ⟨[], [], .bi .add (.e 2) (.c (.n 1))⟩, ⟨[], [], .nop⟩] [some 0, none, some 5, none, none]))))))))
 ((.seq (.reg [⟨[], [], .nop⟩, ⟨[], [], .nop⟩] [none, some 2, none, none, none])
 (.ret))))))))))⟩

/-- loop.example/g03401/impl.PatternOf231 -/
def ir_impl_PatternOf231 : IF := ⟨1, 13, [1, 2],
 (.seq (.reg [⟨[], [], .cs (.o .v) (.l [])⟩, ⟨[], [], .cs .v (.b false)⟩] [some 0, none, none, none, none, none, none, none, none, none, none, none, none])
 ((.seq ((.seq (.reg [⟨[], [], .nop⟩, ⟨[], [], .ca 74 [(.e 0)] 1⟩, ⟨[], [], .un .not (.e 13)⟩] [some 0, none, none, none, none, none, some 14, none, none, none, none, none, none])
 (.cond 6 ((.seq (.reg [⟨[], [], .li (.o .v) []⟩, ⟨[], [], .nop⟩, ⟨[], [], .cs .v (.b false)⟩] [none, some 13, some 14, none, none, none, none, none, none, none, none, none, none])
  (.ret))) (.skip))))
 ((.seq ((.seq (.reg [⟨[], [], .nop⟩, ⟨[], [], .ln (.e 0) []⟩, ⟨[], [], .cs .v (.n 0)⟩] [some 0, none, none, none, none, none, none, some 13, some 14, none, none, none, none])
 (.block 0 (.loop ((.seq (.reg [⟨[], [], .bi .lss (.e 8) (.e 7)⟩] [some 0, none, none, none, none, none, none, some 7, some 8, some 13, none, none, none])
   ((.seq (.cond 9 (.skip) (.exit 0))
   ((.seq (.block 1 ((.seq (.reg [⟨[], [], .nop⟩, ⟨[], [], .nop⟩] [some 0, none, none, some 8, none, none, none, some 7, some 8, none, none, none, none])
    ((.seq (.reg [⟨[], [], .nop⟩, ⟨[], [], .bi .add (.e 3) (.c (.n 1))⟩, ⟨[], [], .nop⟩] [some 0, none, none, some 3, some 13, none, none, some 7, some 8, none, none, none, none])
    (.block 2 (.loop ((.seq ((.seq (.reg [⟨[], [], .nop⟩, ⟨[], [], .nop⟩, ⟨[], [], .ln (.e 0) []⟩, ⟨[], [], .bi .lss (.e 4) (.e 13)⟩] [some 0, none, none, some 3, some 4, none, none, some 7, some 8, none, some 14, none, none])
      (.cond 10 (.skip) (.exit 2))))
      ((.seq (.block 3 ((.seq (.reg [⟨[], [], .nop⟩, ⟨[], [], .bi .add (.e 4) (.c (.n 1))⟩, ⟨[], [], .nop⟩] [some 0, none, none, some 3, some 4, some 13, none, some 7, some 8, none, none, none, none])
       (.block 4 (.loop ((.seq ((.seq (.reg [⟨[], [], .nop⟩, ⟨[], [], .nop⟩, ⟨[], [], .ln (.e 0) []⟩, ⟨[], [], .bi .lss (.e 5) (.e 13)⟩] [some 0, none, none, some 3, some 4, some 5, none, some 7, some 8, none, none, some 14, none])
         (.cond 11 (.skip) (.exit 4))))
         ((.seq (.block 5 ((.seq (.reg [⟨[], [], .nop⟩, ⟨[], [], .nop⟩, ⟨[], [], .iy (.e 0) (.e 5)⟩, ⟨[], [], .nop⟩, ⟨[], [], .nop⟩, ⟨[], [], .nop⟩, ⟨[], [], .iy (.e 0) (.e 3)⟩, ⟨[], [], .nop⟩, ⟨[], [], .bi .lss (.e 13) (.e 14)⟩, ⟨[], [], .nop⟩, ⟨[], [(15, true)], .nop⟩, ⟨[], [(15, true)], .cy (.e 3)⟩, ⟨[], [(15, true)], .iy (.e 0) (.e 16)⟩, ⟨[], [(15, true)], .nop⟩, ⟨[], [(15, true)], .nop⟩, ⟨[], [(15, true)], .cy (.e 4)⟩, ⟨[], [(15, true)], .iy (.e 0) (.e 18)⟩, ⟨[], [(15, true)], .nop⟩, ⟨[], [(15, true)], .bi .lss (.e 17) (.e 19)⟩, ⟨[], [], .pk (.e 15) (.e 20) (.c (.b false))⟩] [some 0, none, none, some 3, some 4, some 5, none, some 7, some 8, none, none, none, some 21])
          (.cond 12 ((.seq (.reg [⟨[], [], .nop⟩, ⟨[], [], .nop⟩, ⟨[], [], .nop⟩, ⟨[], [], .li (.o .v) [(.e 3), (.e 4), (.e 5)]⟩, ⟨[], [], .nop⟩, ⟨[], [], .cs .v (.b true)⟩] [none, some 13, some 14, none, none, none, none, none, none, none, none, none, none])
           (.ret))) (.skip)))))
         (.reg [⟨[], [], .nop⟩, ⟨[], [], .bi .add (.e 5) (.c (.n 1))⟩, ⟨[], [], .nop⟩] [some 0, none, none, some 3, some 4, some 13, none, some 7, some 8, none, none, none, none]))))))))))
      (.reg [⟨[], [], .nop⟩, ⟨[], [], .bi .add (.e 4) (.c (.n 1))⟩, ⟨[], [], .nop⟩] [some 0, none, none, some 3, some 13, none, none, some 7, some 8, none, none, none, none]))))))))))))
   (.reg [⟨[], [], .bi .add (.e 8) (.c (.n 1))⟩, ⟨[], [], .nop⟩] [some 0, none, none, none, none, none, none, some 7, some 13, none, none, none, none])))))))))))
 ((.seq (.reg [⟨[], [], .li (.o .v) []⟩, ⟨[], [], .nop⟩, ⟨[], [], .cs .v (.b false)⟩] [none, some 13, some 14, none, none, none, none, none, none, none, none, none, none])
 (.ret))))))))⟩

/-- loop.example/g03401/impl.SortOnce -/
def ir_impl_SortOnce : IF := ⟨1, 12, [1, 2],
 (.seq (.reg [⟨[], [], .cs (.o .v) (.l [])⟩, ⟨[], [], .cs .v (.b false)⟩] [some 0, none, none, none, none, none, none, none, none, none, none, none])
 ((.seq (.reg [⟨[], [], .li (.o .v) []⟩, ⟨[], [], .nop⟩] [some 0, none, none, some 12, none, none, none, none, none, none, none, none])
 ((.seq ((.seq (.reg [⟨[], [], .nop⟩, ⟨[], [], .ca 74 [(.e 0)] 1⟩, ⟨[], [], .un .not (.e 12)⟩] [some 0, none, none, some 3, none, none, some 13, none, none, none, none, none])
 (.cond 6 ((.seq (.reg [⟨[], [], .nop⟩, ⟨[], [], .nop⟩, ⟨[], [], .cs .v (.b false)⟩] [none, some 3, some 12, none, none, none, none, none, none, none, none, none])
  (.ret))) (.skip))))
 ((.seq (.reg [⟨[], [], .li (.o .v) []⟩, ⟨[], [], .nop⟩] [some 0, none, none, some 3, some 12, none, none, none, none, none, none, none])
 ((.seq ((.seq (.reg [⟨[], [], .nop⟩, ⟨[], [], .ln (.e 0) []⟩, ⟨[], [], .cs .v (.n 0)⟩] [none, none, none, some 3, some 4, none, none, some 0, some 12, some 13, none, none])
 (.block 0 (.loop ((.seq (.reg [⟨[], [], .bi .lss (.e 9) (.e 8)⟩] [none, none, none, some 3, some 4, none, none, some 7, some 8, some 9, some 12, none])
   ((.seq (.cond 10 (.skip) (.exit 0))
   ((.seq (.block 1 ((.seq (.reg [⟨[], [], .iy (.e 7) (.e 9)⟩, ⟨[], [], .nop⟩, ⟨[], [], .nop⟩] [none, none, none, some 3, some 4, some 12, none, some 7, some 8, some 9, none, none])
    ((.seq (.block 2 (.loop ((.seq ((.seq (.reg [⟨[], [], .nop⟩, ⟨[], [], .ln (.e 4) []⟩, ⟨[], [], .bi .gtr (.e 12) (.c (.n 0))⟩, ⟨[], [], .nop⟩, ⟨[], [(13, true)], .nop⟩, ⟨[], [(13, true)], .nop⟩, ⟨[], [(13, true)], .ln (.e 4) []⟩, ⟨[], [(13, true)], .bi .sub (.e 14) (.c (.n 1))⟩, ⟨[], [(13, true)], .ix (.e 4) [] (.e 15)⟩, ⟨[], [(13, true)], .nop⟩, ⟨[], [(13, true)], .cy (.e 5)⟩, ⟨[], [(13, true)], .bi .lss (.e 16) (.e 17)⟩, ⟨[], [], .pk (.e 13) (.e 18) (.c (.b false))⟩] [none, none, none, some 3, some 4, some 5, none, some 7, some 8, some 9, none, some 19])
      (.cond 11 (.skip) (.exit 2))))
      (.block 3 ((.seq (.reg [⟨[], [], .nop⟩, ⟨[], [], .nop⟩, ⟨[], [], .nop⟩, ⟨[], [], .ln (.e 4) []⟩, ⟨[], [], .bi .sub (.e 12) (.c (.n 1))⟩, ⟨[], [], .ix (.e 4) [] (.e 13)⟩, ⟨[], [], .nop⟩, ⟨[], [], .li (.o .v) [(.e 14)]⟩, ⟨[], [], .ap false (.e 3) (.e 15)⟩, ⟨[], [], .nop⟩] [none, none, none, some 16, some 4, some 5, none, some 7, some 8, some 9, none, none])
       (.reg [⟨[], [], .nop⟩, ⟨[], [], .nop⟩, ⟨[], [], .ln (.e 4) []⟩, ⟨[], [], .bi .sub (.e 12) (.c (.n 1))⟩, ⟨[], [], .sb true (.e 4) none (some (.e 13))⟩, ⟨[], [], .nop⟩] [none, none, none, some 3, some 14, some 5, none, some 7, some 8, some 9, none, none]))))))))
    (.reg [⟨[], [], .nop⟩, ⟨[], [], .nop⟩, ⟨[], [], .li (.o .v) [(.e 5)]⟩, ⟨[], [], .ap false (.e 4) (.e 12)⟩, ⟨[], [], .nop⟩] [none, none, none, some 3, some 13, none, none, some 7, some 8, some 9, none, none]))))))
   (.reg [⟨[], [], .bi .add (.e 9) (.c (.n 1))⟩, ⟨[], [], .nop⟩] [none, none, none, some 3, some 4, none, none, some 7, some 8, some 12, none, none])))))))))))
 ((.seq (.reg [⟨[], [], .nop⟩, ⟨[], [], .ca 81 [(.e 4)] 1⟩] [none, none, none, some 3, some 12, none, none, none, none, none, none, none])
 ((.seq (.reg [⟨[], [], .nop⟩, ⟨[], [], .nop⟩, ⟨[], [], .ap false (.e 3) (.e 4)⟩, ⟨[], [], .nop⟩, ⟨[], [], .cs .v (.b true)⟩] [none, some 12, some 13, none, none, none, none, none, none, none, none, none])
 (.ret))))))))))))))⟩

/-- loop.example/g03401/impl.ascends -/
def ir_impl_ascends : IF := ⟨1, 2, [1],
 (.seq (.reg [⟨[], [], .cs .v (.b false)⟩] [some 0, none])
 ((.seq (.reg [⟨[], [], .nop⟩, ⟨[], [], .ca 178 [(.e 0)] 1⟩, ⟨[], [], .nop⟩] [none, some 2])
 (.ret))))⟩

end Go.Cat

namespace Go.Cat
/-- loop.example/g03401/laws.FnExactOutputOf -/
def ir_laws_FnExactOutputOf : IF := ⟨2, 23, [2],
 (.seq (.reg [⟨[], [], .cs .v (.b false)⟩] [some 0, some 1, none, none, none, none, none, none, none, none, none, none, none, none, none, none, none, none, none, none, none, none, none])
 ((.seq ((.seq (.reg [⟨[], [], .nop⟩, ⟨[], [], .sn (.e 0)⟩, ⟨[], [], .bi .gtr (.e 23) (.c (.n 1048576))⟩] [some 0, some 1, none, none, none, none, none, none, none, none, none, none, none, some 24, none, none, none, none, none, none, none, none, none])
 (.cond 13 ((.seq (.reg [⟨[], [], .cs .v (.b true)⟩] [none, none, some 23, none, none, none, none, none, none, none, none, none, none, none, none, none, none, none, none, none, none, none, none])
  (.ret))) (.skip))))
 ((.seq ((.seq (.reg [⟨[], [], .nop⟩, ⟨[], [], .ln (.e 1) []⟩, ⟨[], [], .bi .gtr (.e 23) (.c (.n 1048576))⟩] [some 0, some 1, none, none, none, none, none, none, none, none, none, none, none, none, some 24, none, none, none, none, none, none, none, none])
 (.cond 14 ((.seq (.reg [⟨[], [], .cs .v (.b true)⟩] [none, none, some 23, none, none, none, none, none, none, none, none, none, none, none, none, none, none, none, none, none, none, none, none])
  (.ret))) (.skip))))
 ((.seq (.reg [⟨[], [], .nop⟩, ⟨[], [], .nop⟩, ⟨[], [], .ca 42 [(.e 1)] 1⟩, ⟨[], [], .ca 109 [(.e 0), (.e 23)] 2⟩, ⟨[], [], .nop⟩, ⟨[], [], .nop⟩, ⟨[], [], .nop⟩, ⟨[], [], .nop⟩, ⟨[], [], .nop⟩] [some 0, some 1, none, some 24, some 25, none, none, none, none, none, none, none, none, none, none, none, none, none, none, none, none, none, none])
 ((.seq (.reg [⟨[], [], .nop⟩, ⟨[], [], .ca 42 [(.e 1)] 1⟩, ⟨[], [], .nop⟩] [some 0, some 1, none, some 3, some 4, some 23, none, none, none, none, none, none, none, none, none, none, none, none, none, none, none, none, none])
 ((.seq (.reg [⟨[], [], .nop⟩, ⟨[], [], .nop⟩, ⟨[], [], .ca 110 [(.e 0), (.e 5)] 2⟩, ⟨[], [], .nop⟩, ⟨[], [], .nop⟩, ⟨[], [], .nop⟩, ⟨[], [], .nop⟩, ⟨[], [], .nop⟩] [some 0, some 1, none, some 3, some 4, some 5, some 23, some 24, none, none, none, none, none, none, none, none, none, none, none, none, none, none, none])
 ((.seq ((.seq (.reg [⟨[], [], .nop⟩, ⟨[], [], .nop⟩, ⟨[], [], .ca 44 [(.e 6), (.e 3)] 1⟩, ⟨[], [], .un .not (.e 23)⟩, ⟨[], [], .nop⟩, ⟨[], [(24, false)], .cy (.e 7)⟩, ⟨[], [(24, false)], .cy (.e 4)⟩, ⟨[], [(24, false)], .bb .neq (.e 25) (.e 26)⟩, ⟨[], [], .pk (.e 24) (.c (.b true)) (.e 27)⟩] [some 0, some 1, none, some 3, some 4, some 5, some 6, some 7, none, none, none, none, none, none, none, some 28, none, none, none, none, none, none, none])
 (.cond 15 ((.seq (.reg [⟨[], [], .cs .v (.b false)⟩] [none, none, some 23, none, none, none, none, none, none, none, none, none, none, none, none, none, none, none, none, none, none, none, none])
  (.ret))) (.skip))))
 ((.seq ((.seq (.reg [⟨[], [], .nop⟩, ⟨[], [], .nop⟩, ⟨[], [], .ca 42 [(.e 1)] 1⟩, ⟨[], [], .ca 44 [(.e 5), (.e 23)] 1⟩, ⟨[], [], .un .not (.e 24)⟩] [some 0, some 1, none, some 3, some 4, some 5, some 6, some 7, none, none, none, none, none, none, none, none, some 25, none, none, none, none, none, none])
 (.cond 16 ((.seq (.reg [⟨[], [], .cs .v (.b false)⟩] [none, none, some 23, none, none, none, none, none, none, none, none, none, none, none, none, none, none, none, none, none, none, none, none])
  (.ret))) (.skip))))
 ((.seq (.reg [⟨[], [], .cs .v (.n 1)⟩] [some 0, some 1, none, some 3, some 4, some 5, some 6, some 7, some 23, none, none, none, none, none, none, none, none, none, none, none, none, none, none])
 ((.seq (.reg [⟨[], [], .nop⟩, ⟨[], [], .nop⟩, ⟨[], [], .ca 45 [(.e 5), (.e 8)] 2⟩, ⟨[], [], .nop⟩] [some 0, some 1, none, some 3, some 4, none, some 6, some 7, some 23, none, none, none, none, none, none, none, none, none, none, none, none, none, none])
 ((.seq ((.seq (.reg [⟨[], [], .nop⟩, ⟨[], [], .bi .lss (.e 8) (.c (.n 0))⟩, ⟨[], [], .nop⟩, ⟨[], [(23, false)], .nop⟩, ⟨[], [(23, false)], .cy (.e 3)⟩, ⟨[], [(23, false)], .ca 44 [(.e 6), (.e 24)] 1⟩, ⟨[], [(23, false)], .un .not (.e 25)⟩, ⟨[], [], .pk (.e 23) (.c (.b true)) (.e 26)⟩, ⟨[], [], .nop⟩, ⟨[], [(27, false)], .cy (.e 7)⟩, ⟨[], [(27, false)], .cy (.e 4)⟩, ⟨[], [(27, false)], .bb .neq (.e 28) (.e 29)⟩, ⟨[], [], .pk (.e 27) (.c (.b true)) (.e 30)⟩] [some 0, some 1, none, some 3, some 4, none, some 6, none, none, none, none, none, none, none, none, none, none, some 31, none, none, none, none, none])
 (.cond 17 ((.seq (.reg [⟨[], [], .cs .v (.b false)⟩] [none, none, some 23, none, none, none, none, none, none, none, none, none, none, none, none, none, none, none, none, none, none, none, none])
  (.ret))) (.skip))))
 ((.seq (.reg [⟨[], [], .cs .v (.n 1)⟩] [some 0, some 1, none, some 3, some 4, none, some 6, none, none, some 23, none, none, none, none, none, none, none, none, none, none, none, none, none])
 ((.seq (.reg [⟨[], [], .nop⟩, ⟨[], [], .nop⟩, ⟨[], [], .ca 45 [(.e 6), (.e 9)] 2⟩, ⟨[], [], .nop⟩] [some 0, some 1, none, some 3, some 4, none, some 24, none, none, some 23, none, none, none, none, none, none, none, none, none, none, none, none, none])
 ((.seq (.reg [⟨[], [], .cs .v (.n 1)⟩] [some 0, some 1, none, some 3, some 4, none, some 6, none, none, some 9, some 23, none, none, none, none, none, none, none, none, none, none, none, none])
 ((.seq (.reg [⟨[], [], .nop⟩, ⟨[], [], .nop⟩, ⟨[], [], .ca 46 [(.e 6), (.e 10)] 1⟩, ⟨[], [], .nop⟩] [some 0, some 1, none, some 3, some 4, none, some 6, none, none, some 9, some 23, none, none, none, none, none, none, none, none, none, none, none, none])
 ((.seq ((.seq (.reg [⟨[], [], .nop⟩, ⟨[], [], .bi .lss (.e 10) (.c (.n 0))⟩] [some 0, some 1, none, some 3, some 4, none, some 6, none, none, some 9, some 10, none, none, none, none, none, none, none, some 23, none, none, none, none])
 (.cond 18 ((.seq (.reg [⟨[], [], .cs .v (.b false)⟩] [none, none, some 23, none, none, none, none, none, none, none, none, none, none, none, none, none, none, none, none, none, none, none, none])
  (.ret))) (.skip))))
 ((.seq ((.seq (.reg [⟨[], [], .nop⟩, ⟨[], [], .nop⟩, ⟨[], [], .bi .neq (.e 10) (.e 9)⟩] [some 0, some 1, none, some 3, some 4, none, some 6, none, none, some 9, none, none, none, none, none, none, none, none, none, some 23, none, none, none])
 (.cond 19 ((.seq (.reg [⟨[], [], .cs .v (.b false)⟩] [none, none, some 23, none, none, none, none, none, none, none, none, none, none, none, none, none, none, none, none, none, none, none, none])
  (.ret))) (.skip))))
 ((.seq (.reg [⟨[], [], .nop⟩, ⟨[], [], .nop⟩, ⟨[], [], .ca 42 [(.e 1)] 1⟩, ⟨[], [], .ca 110 [(.e 0), (.e 23)] 2⟩, ⟨[], [], .nop⟩, ⟨[], [], .nop⟩, ⟨[], [], .nop⟩, ⟨[], [], .nop⟩, ⟨[], [], .nop⟩] [none, none, none, some 3, some 4, none, some 6, none, none, some 9, none, some 24, some 25, none, none, none, none, none, none, none, none, none, none])
 ((.seq ((.seq (.reg [⟨[], [], .nop⟩, ⟨[], [], .nop⟩, ⟨[], [], .ca 44 [(.e 11), (.e 3)] 1⟩, ⟨[], [], .un .not (.e 23)⟩, ⟨[], [], .nop⟩, ⟨[], [(24, false)], .cy (.e 12)⟩, ⟨[], [(24, false)], .cy (.e 4)⟩, ⟨[], [(24, false)], .bb .neq (.e 25) (.e 26)⟩, ⟨[], [], .pk (.e 24) (.c (.b true)) (.e 27)⟩] [none, none, none, none, none, none, some 6, none, none, some 9, none, none, none, none, none, none, none, none, none, none, some 28, none, none])
 (.cond 20 ((.seq (.reg [⟨[], [], .cs .v (.b false)⟩] [none, none, some 23, none, none, none, none, none, none, none, none, none, none, none, none, none, none, none, none, none, none, none, none])
  (.ret))) (.skip))))
 ((.seq (.reg [⟨[], [], .cs .v (.n 1)⟩] [none, none, none, none, none, none, some 6, none, none, some 9, some 23, none, none, none, none, none, none, none, none, none, none, none, none])
 ((.seq (.reg [⟨[], [], .nop⟩, ⟨[], [], .nop⟩, ⟨[], [], .ca 46 [(.e 6), (.e 10)] 1⟩, ⟨[], [], .nop⟩] [none, none, none, none, none, none, none, none, none, some 9, some 23, none, none, none, none, none, none, none, none, none, none, none, none])
 ((.seq ((.seq (.reg [⟨[], [], .nop⟩, ⟨[], [], .bi .lss (.e 10) (.c (.n 0))⟩] [none, none, none, none, none, none, none, none, none, some 9, some 10, none, none, none, none, none, none, none, none, none, none, some 23, none])
 (.cond 21 ((.seq (.reg [⟨[], [], .cs .v (.b false)⟩] [none, none, some 23, none, none, none, none, none, none, none, none, none, none, none, none, none, none, none, none, none, none, none, none])
  (.ret))) (.skip))))
 ((.seq ((.seq (.reg [⟨[], [], .nop⟩, ⟨[], [], .nop⟩, ⟨[], [], .bi .neq (.e 10) (.e 9)⟩] [none, none, none, none, none, none, none, none, none, none, none, none, none, none, none, none, none, none, none, none, none, none, some 23])
 (.cond 22 ((.seq (.reg [⟨[], [], .cs .v (.b false)⟩] [none, none, some 23, none, none, none, none, none, none, none, none, none, none, none, none, none, none, none, none, none, none, none, none])
  (.ret))) (.skip))))
 ((.seq (.reg [⟨[], [], .cs .v (.b true)⟩] [none, none, some 23, none, none, none, none, none, none, none, none, none, none, none, none, none, none, none, none, none, none, none, none])
 (.ret))))))))))))))))))))))))))))))))))))))))))))))))⟩

end Go.Cat

namespace Go.Cat
/-- loop.example/g03401/spec.FormatInt -/
def ir_spec_FormatInt : IF := ⟨1, 9, [1],
 (.seq (.reg [⟨[], [], .cs .v (.s [])⟩] [some 0, none, none, none, none, none, none, none, none])
 ((.seq ((.seq (.reg [⟨[], [], .nop⟩, ⟨[], [], .bi .eql (.e 0) (.c (.n 0))⟩] [some 0, none, none, none, none, some 9, none, none, none])
 (.cond 5 ((.seq (.reg [⟨[], [], .cs .v (.s [48])⟩] [none, some 9, none, none, none, none, none, none, none])
  (.ret))) (.skip))))
 ((.seq (.reg [⟨[], [], .cs .v (.s [])⟩] [some 0, none, some 9, none, none, none, none, none, none])
 ((.seq (.reg [⟨[], [], .nop⟩, ⟨[], [], .bi .lss (.e 0) (.c (.n 0))⟩, ⟨[], [], .nop⟩] [some 0, none, some 2, some 9, none, none, none, none, none])
 ((.seq (.block 0 (.loop ((.seq ((.seq (.reg [⟨[], [], .nop⟩, ⟨[], [], .bi .neq (.e 0) (.c (.n 0))⟩] [some 0, none, some 2, some 3, none, none, some 9, none, none])
   (.cond 6 (.skip) (.exit 0))))
   (.block 1 ((.seq (.reg [⟨[], [], .nop⟩, ⟨[], [], .bi .rem (.e 0) (.c (.n 10))⟩, ⟨[], [], .nop⟩] [some 0, none, some 2, some 3, some 9, none, none, none, none])
    ((.seq ((.seq (.reg [⟨[], [], .nop⟩, ⟨[], [], .bi .lss (.e 4) (.c (.n 0))⟩] [some 0, none, some 2, some 3, some 4, none, none, some 9, none])
    (.cond 7 (.reg [⟨[], [], .nop⟩, ⟨[], [], .un .neg (.e 4)⟩, ⟨[], [], .nop⟩] [some 0, none, some 2, some 3, some 9, none, none, none, none]) (.skip))))
    ((.seq (.reg [⟨[], [], .nop⟩, ⟨[], [], .bi .add (.c (.n 48)) (.e 4)⟩, ⟨[], [], .cv .u8 (.e 9)⟩, ⟨[], [], .li (.o .v) [(.e 10)]⟩, ⟨[], [], .bs (.e 11)⟩, ⟨[], [], .nop⟩, ⟨[], [], .bi .add (.e 12) (.e 2)⟩, ⟨[], [], .nop⟩] [some 0, none, some 13, some 3, none, none, none, none, none])
    (.reg [⟨[], [], .nop⟩, ⟨[], [], .bi .quo (.e 0) (.c (.n 10))⟩, ⟨[], [], .nop⟩] [some 9, none, some 2, some 3, none, none, none, none, none]))))))))))))
 ((.seq ((.seq (.reg [⟨[], [], .nop⟩] [none, none, some 2, none, none, none, none, none, some 3])
 (.cond 8 ((.seq (.reg [⟨[], [], .nop⟩, ⟨[], [], .bi .add (.c (.s [45])) (.e 2)⟩, ⟨[], [], .nop⟩] [none, some 9, none, none, none, none, none, none, none])
  (.ret))) (.skip))))
 ((.seq (.reg [⟨[], [], .nop⟩, ⟨[], [], .nop⟩] [none, some 2, none, none, none, none, none, none, none])
 (.ret))))))))))))))⟩

/-- loop.example/g03401/spec.l1In -/
def ir_spec_l1In : IF := ⟨3, 4, [3],
 (.seq (.reg [⟨[], [], .cs .v (.b false)⟩] [some 0, some 1, some 2, none])
 ((.seq (.reg [⟨[], [], .nop⟩, ⟨[], [], .nop⟩, ⟨[], [], .bi .geq (.e 0) (.e 1)⟩, ⟨[], [], .nop⟩, ⟨[], [(4, true)], .cy (.e 0)⟩, ⟨[], [(4, true)], .cy (.e 2)⟩, ⟨[], [(4, true)], .bi .leq (.e 5) (.e 6)⟩, ⟨[], [], .pk (.e 4) (.e 7) (.c (.b false))⟩, ⟨[], [], .nop⟩] [none, none, none, some 8])
 (.ret))))⟩

end Go.Cat

namespace Go.Cat
/-- loop.example/g03401/spec.IsDyck -/
def ir_spec_IsDyck : IF := ⟨1, 9, [1],
 (.seq (.reg [⟨[], [], .cs .v (.b false)⟩] [some 0, none, none, none, none, none, none, none, none])
 ((.seq (.reg [⟨[], [], .cs .v (.n 0)⟩] [some 0, none, some 9, none, none, none, none, none, none])
 ((.seq ((.seq (.reg [⟨[], [], .cs .v (.n 0)⟩] [some 0, none, some 2, some 9, none, none, none, none, none])
 (.block 0 (.loop ((.seq ((.seq (.reg [⟨[], [], .nop⟩, ⟨[], [], .nop⟩, ⟨[], [], .sn (.e 0)⟩, ⟨[], [], .bi .lss (.e 3) (.e 9)⟩] [some 0, none, some 2, some 3, some 10, none, none, none, none])
   (.cond 4 (.skip) (.exit 0))))
   ((.seq (.block 1 ((.seq ((.seq (.reg [⟨[], [], .nop⟩, ⟨[], [], .nop⟩, ⟨[], [], .sx (.e 0) (.e 3)⟩] [some 0, none, some 2, some 3, none, some 9, none, none, none])
    (.block 2 ((.seq (.reg [⟨[], [], .bi .eql (.e 5) (.c (.y 117))⟩, ⟨[], [], .nop⟩] [some 0, none, some 2, some 3, none, some 5, some 9, none, none])
     (.cond 6 (.reg [⟨[], [], .nop⟩, ⟨[], [], .bi .add (.e 2) (.c (.n 1))⟩, ⟨[], [], .nop⟩] [some 0, none, some 9, some 3, none, none, none, none, none]) ((.seq (.reg [⟨[], [], .bi .eql (.e 5) (.c (.y 100))⟩, ⟨[], [], .nop⟩] [some 0, none, some 2, some 3, none, none, none, some 9, none])
      (.cond 7 (.reg [⟨[], [], .nop⟩, ⟨[], [], .bi .sub (.e 2) (.c (.n 1))⟩, ⟨[], [], .nop⟩] [some 0, none, some 9, some 3, none, none, none, none, none]) ((.seq (.reg [⟨[], [], .cs .v (.b false)⟩] [none, some 9, none, none, none, none, none, none, none])
       (.ret))))))))))))
    ((.seq (.reg [⟨[], [], .nop⟩, ⟨[], [], .bi .lss (.e 2) (.c (.n 0))⟩] [some 0, none, some 2, some 3, none, none, none, none, some 9])
    (.cond 8 ((.seq (.reg [⟨[], [], .cs .v (.b false)⟩] [none, some 9, none, none, none, none, none, none, none])
     (.ret))) (.skip)))))))
   (.reg [⟨[], [], .nop⟩, ⟨[], [], .bi .add (.e 3) (.c (.n 1))⟩, ⟨[], [], .nop⟩] [some 0, none, some 2, some 9, none, none, none, none, none])))))))))
 ((.seq (.reg [⟨[], [], .nop⟩, ⟨[], [], .bi .eql (.e 2) (.c (.n 0))⟩, ⟨[], [], .nop⟩, ⟨[], [(9, true)], .cy (.e 0)⟩, ⟨[], [(9, true)], .sn (.e 10)⟩, ⟨[], [(9, true)], .bi .leq (.e 11) (.c (.n 16))⟩, ⟨[], [], .pk (.e 9) (.e 12) (.c (.b false))⟩, ⟨[], [], .nop⟩] [none, some 13, none, none, none, none, none, none, none])
 (.ret))))))))⟩

end Go.Cat

namespace Go.Cat
/-- loop.example/g03401/spec.Contains231 -/
def ir_spec_Contains231 : IF := ⟨1, 9, [1],
 (.seq (.reg [⟨[], [], .cs .v (.b false)⟩] [some 0, none, none, none, none, none, none, none, none])
 ((.seq ((.seq (.reg [⟨[], [], .cs .v (.n 0)⟩] [some 0, none, some 9, none, none, none, none, none, none])
 (.block 0 (.loop ((.seq ((.seq (.reg [⟨[], [], .nop⟩, ⟨[], [], .nop⟩, ⟨[], [], .ln (.e 0) []⟩, ⟨[], [], .bi .lss (.e 2) (.e 9)⟩, ⟨[], [], .nop⟩, ⟨[], [(10, true)], .nop⟩, ⟨[], [(10, true)], .ca 73 [(.e 0)] 1⟩, ⟨[], [], .pk (.e 10) (.e 11) (.c (.b false))⟩] [some 0, none, some 2, none, none, some 12, none, none, none])
   (.cond 5 (.skip) (.exit 0))))
   ((.seq (.block 1 ((.seq (.reg [⟨[], [], .nop⟩, ⟨[], [], .bi .add (.e 2) (.c (.n 1))⟩, ⟨[], [], .nop⟩] [some 0, none, some 2, some 9, none, none, none, none, none])
    (.block 2 (.loop ((.seq ((.seq (.reg [⟨[], [], .nop⟩, ⟨[], [], .nop⟩, ⟨[], [], .ln (.e 0) []⟩, ⟨[], [], .bi .lss (.e 3) (.e 9)⟩] [some 0, none, some 2, some 3, none, none, some 10, none, none])
      (.cond 6 (.skip) (.exit 2))))
      ((.seq (.block 3 ((.seq (.reg [⟨[], [], .nop⟩, ⟨[], [], .bi .add (.e 3) (.c (.n 1))⟩, ⟨[], [], .nop⟩] [some 0, none, some 2, some 3, some 9, none, none, none, none])
       (.block 4 (.loop ((.seq ((.seq (.reg [⟨[], [], .nop⟩, ⟨[], [], .nop⟩, ⟨[], [], .ln (.e 0) []⟩, ⟨[], [], .bi .lss (.e 4) (.e 9)⟩] [some 0, none, some 2, some 3, some 4, none, none, some 10, none])
         (.cond 7 (.skip) (.exit 4))))
         ((.seq (.block 5 ((.seq (.reg [⟨[], [], .nop⟩, ⟨[], [], .nop⟩, ⟨[], [], .iy (.e 0) (.e 4)⟩, ⟨[], [], .nop⟩, ⟨[], [], .nop⟩, ⟨[], [], .nop⟩, ⟨[], [], .iy (.e 0) (.e 2)⟩, ⟨[], [], .nop⟩, ⟨[], [], .bi .lss (.e 9) (.e 10)⟩, ⟨[], [], .nop⟩, ⟨[], [(11, true)], .nop⟩, ⟨[], [(11, true)], .cy (.e 2)⟩, ⟨[], [(11, true)], .iy (.e 0) (.e 12)⟩, ⟨[], [(11, true)], .nop⟩, ⟨[], [(11, true)], .nop⟩, ⟨[], [(11, true)], .cy (.e 3)⟩, ⟨[], [(11, true)], .iy (.e 0) (.e 14)⟩, ⟨[], [(11, true)], .nop⟩, ⟨[], [(11, true)], .bi .lss (.e 13) (.e 15)⟩, ⟨[], [], .pk (.e 11) (.e 16) (.c (.b false))⟩] [some 0, none, some 2, some 3, some 4, none, none, none, some 17])
          (.cond 8 ((.seq (.reg [⟨[], [], .cs .v (.b true)⟩] [none, some 9, none, none, none, none, none, none, none])
           (.ret))) (.skip)))))
         (.reg [⟨[], [], .nop⟩, ⟨[], [], .bi .add (.e 4) (.c (.n 1))⟩, ⟨[], [], .nop⟩] [some 0, none, some 2, some 3, some 9, none, none, none, none]))))))))))
      (.reg [⟨[], [], .nop⟩, ⟨[], [], .bi .add (.e 3) (.c (.n 1))⟩, ⟨[], [], .nop⟩] [some 0, none, some 2, some 9, none, none, none, none, none]))))))))))
   (.reg [⟨[], [], .nop⟩, ⟨[], [], .bi .add (.e 2) (.c (.n 1))⟩, ⟨[], [], .nop⟩] [some 0, none, some 9, none, none, none, none, none, none])))))))))
 ((.seq (.reg [⟨[], [], .cs .v (.b false)⟩] [none, some 9, none, none, none, none, none, none, none])
 (.ret))))))⟩

/-- loop.example/g03401/spec.IsPermutation -/
def ir_spec_IsPermutation : IF := ⟨1, 8, [1],
 (.seq (.reg [⟨[], [], .cs .v (.b false)⟩] [some 0, none, none, none, none, none, none, none])
 ((.seq ((.seq (.reg [⟨[], [], .cs .v (.n 0)⟩] [some 0, none, some 8, none, none, none, none, none])
 (.block 0 (.loop ((.seq ((.seq (.reg [⟨[], [], .nop⟩, ⟨[], [], .nop⟩, ⟨[], [], .ln (.e 0) []⟩, ⟨[], [], .bi .lss (.e 2) (.e 8)⟩] [some 0, none, some 2, none, some 9, none, none, none])
   (.cond 4 (.skip) (.exit 0))))
   ((.seq (.block 1 ((.seq ((.seq (.reg [⟨[], [], .nop⟩, ⟨[], [], .nop⟩, ⟨[], [], .iy (.e 0) (.e 2)⟩, ⟨[], [], .nop⟩, ⟨[], [], .nop⟩, ⟨[], [], .ln (.e 0) []⟩, ⟨[], [], .bi .sub (.e 9) (.c (.n 1))⟩, ⟨[], [], .ca 22 [(.e 8), (.c (.n 0)), (.e 10)] 1⟩, ⟨[], [], .un .not (.e 11)⟩] [some 0, none, some 2, none, none, some 12, none, none])
    (.cond 5 ((.seq (.reg [⟨[], [], .cs .v (.b false)⟩] [none, some 8, none, none, none, none, none, none])
     (.ret))) (.skip))))
    ((.seq (.reg [⟨[], [], .cs .v (.n 0)⟩] [some 0, none, some 2, some 8, none, none, none, none])
    (.block 2 (.loop ((.seq ((.seq (.reg [⟨[], [], .nop⟩, ⟨[], [], .nop⟩, ⟨[], [], .bi .lss (.e 3) (.e 2)⟩] [some 0, none, some 2, some 3, none, none, some 8, none])
      (.cond 6 (.skip) (.exit 2))))
      ((.seq (.block 3 ((.seq (.reg [⟨[], [], .nop⟩, ⟨[], [], .nop⟩, ⟨[], [], .iy (.e 0) (.e 3)⟩, ⟨[], [], .nop⟩, ⟨[], [], .nop⟩, ⟨[], [], .nop⟩, ⟨[], [], .iy (.e 0) (.e 2)⟩, ⟨[], [], .nop⟩, ⟨[], [], .bi .eql (.e 8) (.e 9)⟩] [some 0, none, some 2, some 3, none, none, none, some 10])
       (.cond 7 ((.seq (.reg [⟨[], [], .cs .v (.b false)⟩] [none, some 8, none, none, none, none, none, none])
        (.ret))) (.skip)))))
      (.reg [⟨[], [], .nop⟩, ⟨[], [], .bi .add (.e 3) (.c (.n 1))⟩, ⟨[], [], .nop⟩] [some 0, none, some 2, some 8, none, none, none, none]))))))))))))
   (.reg [⟨[], [], .nop⟩, ⟨[], [], .bi .add (.e 2) (.c (.n 1))⟩, ⟨[], [], .nop⟩] [some 0, none, some 8, none, none, none, none, none])))))))))
 ((.seq (.reg [⟨[], [], .nop⟩, ⟨[], [], .ln (.e 0) []⟩, ⟨[], [], .bi .leq (.e 8) (.c (.n 8))⟩, ⟨[], [], .nop⟩] [none, some 9, none, none, none, none, none, none])
 (.ret))))))⟩

/-- loop.example/g03401/spec.PathOfPermutation -/
def ir_spec_PathOfPermutation : IF := ⟨1, 10, [1, 2],
 (.seq (.reg [⟨[], [], .cs .v (.s [])⟩, ⟨[], [], .cs .v (.b false)⟩] [some 0, none, none, none, none, none, none, none, none, none])
 ((.seq ((.seq (.reg [⟨[], [], .nop⟩, ⟨[], [], .ca 73 [(.e 0)] 1⟩, ⟨[], [], .un .not (.e 10)⟩, ⟨[], [], .nop⟩, ⟨[], [(11, false)], .nop⟩, ⟨[], [(11, false)], .ca 186 [(.e 0)] 1⟩, ⟨[], [], .pk (.e 11) (.c (.b true)) (.e 12)⟩] [some 0, none, none, none, none, none, none, some 13, none, none])
 (.cond 7 ((.seq (.reg [⟨[], [], .cs .v (.s [])⟩, ⟨[], [], .cs .v (.b false)⟩] [none, some 10, some 11, none, none, none, none, none, none, none])
  (.ret))) (.skip))))
 ((.seq (.reg [⟨[], [], .cs .v (.s [])⟩] [some 0, none, none, some 10, none, none, none, none, none, none])
 ((.seq (.reg [⟨[], [], .li (.o .v) []⟩, ⟨[], [], .nop⟩] [some 0, none, none, some 3, some 10, none, none, none, none, none])
 ((.seq (.reg [⟨[], [], .cs .v (.n 0)⟩] [some 0, none, none, some 3, some 4, some 10, none, none, none, none])
 ((.seq ((.seq (.reg [⟨[], [], .cs .v (.n 0)⟩] [some 0, none, none, some 3, some 4, some 5, some 10, none, none, none])
 (.block 0 (.loop ((.seq ((.seq (.reg [⟨[], [], .nop⟩, ⟨[], [], .nop⟩, ⟨[], [], .ln (.e 0) []⟩, ⟨[], [], .bi .lss (.e 6) (.e 10)⟩] [some 0, none, none, some 3, some 4, some 5, some 6, none, some 11, none])
   (.cond 8 (.skip) (.exit 0))))
   ((.seq (.block 1 ((.seq (.reg [⟨[], [], .nop⟩, ⟨[], [], .bi .add (.e 3) (.c (.s [117]))⟩, ⟨[], [], .nop⟩] [some 0, none, none, some 10, some 4, some 5, some 6, none, none, none])
    ((.seq (.reg [⟨[], [], .nop⟩, ⟨[], [], .nop⟩, ⟨[], [], .nop⟩, ⟨[], [], .iy (.e 0) (.e 6)⟩, ⟨[], [], .nop⟩, ⟨[], [], .li (.o .v) [(.e 10)]⟩, ⟨[], [], .ap false (.e 4) (.e 11)⟩, ⟨[], [], .nop⟩] [some 0, none, none, some 3, some 12, some 5, some 6, none, none, none])
    (.block 2 (.loop ((.seq ((.seq (.reg [⟨[], [], .nop⟩, ⟨[], [], .ln (.e 4) []⟩, ⟨[], [], .bi .gtr (.e 10) (.c (.n 0))⟩, ⟨[], [], .nop⟩, ⟨[], [(11, true)], .nop⟩, ⟨[], [(11, true)], .nop⟩, ⟨[], [(11, true)], .ln (.e 4) []⟩, ⟨[], [(11, true)], .bi .sub (.e 12) (.c (.n 1))⟩, ⟨[], [(11, true)], .ix (.e 4) [] (.e 13)⟩, ⟨[], [(11, true)], .nop⟩, ⟨[], [(11, true)], .cy (.e 5)⟩, ⟨[], [(11, true)], .bi .eql (.e 14) (.e 15)⟩, ⟨[], [], .pk (.e 11) (.e 16) (.c (.b false))⟩] [some 0, none, none, some 3, some 4, some 5, some 6, none, none, some 17])
      (.cond 9 (.skip) (.exit 2))))
      (.block 3 ((.seq (.reg [⟨[], [], .nop⟩, ⟨[], [], .bi .add (.e 3) (.c (.s [100]))⟩, ⟨[], [], .nop⟩] [some 0, none, none, some 10, some 4, some 5, some 6, none, none, none])
       ((.seq (.reg [⟨[], [], .nop⟩, ⟨[], [], .nop⟩, ⟨[], [], .ln (.e 4) []⟩, ⟨[], [], .bi .sub (.e 10) (.c (.n 1))⟩, ⟨[], [], .sb true (.e 4) none (some (.e 11))⟩, ⟨[], [], .nop⟩] [some 0, none, none, some 3, some 12, some 5, some 6, none, none, none])
       (.reg [⟨[], [], .nop⟩, ⟨[], [], .bi .add (.e 5) (.c (.n 1))⟩, ⟨[], [], .nop⟩] [some 0, none, none, some 3, some 4, some 10, some 6, none, none, none])))))))))))))))
   (.reg [⟨[], [], .nop⟩, ⟨[], [], .bi .add (.e 6) (.c (.n 1))⟩, ⟨[], [], .nop⟩] [some 0, none, none, some 3, some 4, some 5, some 10, none, none, none])))))))))
 ((.seq (.reg [⟨[], [], .nop⟩, ⟨[], [], .nop⟩, ⟨[], [], .cs .v (.b true)⟩] [none, some 3, some 10, none, none, none, none, none, none, none])
 (.ret))))))))))))))⟩

end Go.Cat

namespace Go.Cat
/-- loop.example/g03401/spec.BubbleOnce -/
def ir_spec_BubbleOnce : IF := ⟨1, 9, [1, 2],
 (.seq (.reg [⟨[], [], .cs (.o .v) (.l [])⟩, ⟨[], [], .cs .v (.b false)⟩] [some 0, none, none, none, none, none, none, none, none])
 ((.seq ((.seq (.reg [⟨[], [], .nop⟩, ⟨[], [], .ca 73 [(.e 0)] 1⟩, ⟨[], [], .un .not (.e 9)⟩] [some 0, none, none, none, none, none, some 10, none, none])
 (.cond 6 ((.seq (.reg [⟨[], [], .li (.o .v) []⟩, ⟨[], [], .nop⟩, ⟨[], [], .cs .v (.b false)⟩] [none, some 9, some 10, none, none, none, none, none, none])
  (.ret))) (.skip))))
 ((.seq (.reg [⟨[], [], .li (.o .v) []⟩, ⟨[], [], .nop⟩, ⟨[], [], .ap true (.e 9) (.e 0)⟩, ⟨[], [], .nop⟩] [none, none, none, some 10, none, none, none, none, none])
 ((.seq ((.seq (.reg [⟨[], [], .cs .v (.n 1)⟩] [none, none, none, some 3, some 9, none, none, none, none])
 (.block 0 (.loop ((.seq ((.seq (.reg [⟨[], [], .nop⟩, ⟨[], [], .nop⟩, ⟨[], [], .ln (.e 3) []⟩, ⟨[], [], .bi .lss (.e 4) (.e 9)⟩] [none, none, none, some 3, some 4, none, none, some 10, none])
   (.cond 7 (.skip) (.exit 0))))
   ((.seq (.block 1 ((.seq (.reg [⟨[], [], .nop⟩, ⟨[], [], .nop⟩, ⟨[], [], .bi .sub (.e 4) (.c (.n 1))⟩, ⟨[], [], .ix (.e 3) [] (.e 9)⟩, ⟨[], [], .nop⟩, ⟨[], [], .nop⟩, ⟨[], [], .nop⟩, ⟨[], [], .ix (.e 3) [] (.e 4)⟩, ⟨[], [], .nop⟩, ⟨[], [], .bi .gtr (.e 10) (.e 11)⟩] [none, none, none, some 3, some 4, none, none, none, some 12])
    (.cond 8 ((.seq (.reg [⟨[], [], .nop⟩, ⟨[], [], .nop⟩, ⟨[], [], .ix (.e 3) [] (.e 4)⟩, ⟨[], [], .nop⟩, ⟨[], [], .nop⟩] [none, none, none, some 3, some 4, some 9, none, none, none])
     ((.seq (.reg [⟨[], [], .nop⟩, ⟨[], [], .nop⟩, ⟨[], [], .nop⟩, ⟨[], [], .nop⟩, ⟨[], [], .bi .sub (.e 4) (.c (.n 1))⟩, ⟨[], [], .ix (.e 3) [] (.e 9)⟩, ⟨[], [], .nop⟩, ⟨[], [], .ix (.e 3) [] (.e 4)⟩, ⟨[], [], .up 3 [.e 4] (.e 10)⟩] [none, none, none, some 12, some 4, some 5, none, none, none])
     (.reg [⟨[], [], .nop⟩, ⟨[], [], .nop⟩, ⟨[], [], .bi .sub (.e 4) (.c (.n 1))⟩, ⟨[], [], .nop⟩, ⟨[], [], .ix (.e 3) [] (.e 9)⟩, ⟨[], [], .up 3 [.e 9] (.e 5)⟩] [none, none, none, some 11, some 4, none, none, none, none]))))) (.skip)))))
   (.reg [⟨[], [], .nop⟩, ⟨[], [], .bi .add (.e 4) (.c (.n 1))⟩, ⟨[], [], .nop⟩] [none, none, none, some 3, some 9, none, none, none, none])))))))))
 ((.seq (.reg [⟨[], [], .nop⟩, ⟨[], [], .nop⟩, ⟨[], [], .cs .v (.b true)⟩] [none, some 3, some 9, none, none, none, none, none, none])
 (.ret))))))))))⟩

/-- loop.example/g03401/spec.IsSortable -/
def ir_spec_IsSortable : IF := ⟨1, 2, [1],
 (.seq (.reg [⟨[], [], .cs .v (.b false)⟩] [some 0, none])
 ((.seq (.reg [⟨[], [], .nop⟩, ⟨[], [], .ca 73 [(.e 0)] 1⟩, ⟨[], [], .nop⟩, ⟨[], [(2, true)], .nop⟩, ⟨[], [(2, true)], .ca 80 [(.e 0)] 1⟩, ⟨[], [(2, true)], .ca 130 [(.e 3)] 1⟩, ⟨[], [], .pk (.e 2) (.e 4) (.c (.b false))⟩, ⟨[], [], .nop⟩] [none, some 5])
 (.ret))))⟩

/-- loop.example/g03401/spec.OutputOf -/
def ir_spec_OutputOf : IF := ⟨2, 11, [2, 3],
 (.seq (.reg [⟨[], [], .cs (.o .v) (.l [])⟩, ⟨[], [], .cs .v (.b false)⟩] [some 0, some 1, none, none, none, none, none, none, none, none, none])
 ((.seq (.reg [⟨[], [], .li (.o .v) []⟩, ⟨[], [], .nop⟩] [some 0, some 1, none, none, some 11, none, none, none, none, none, none])
 ((.seq ((.seq (.reg [⟨[], [], .nop⟩, ⟨[], [], .ca 64 [(.e 0)] 1⟩, ⟨[], [], .un .not (.e 11)⟩, ⟨[], [], .nop⟩, ⟨[], [(12, false)], .nop⟩, ⟨[], [(12, false)], .ca 73 [(.e 1)] 1⟩, ⟨[], [(12, false)], .un .not (.e 13)⟩, ⟨[], [], .pk (.e 12) (.c (.b true)) (.e 14)⟩, ⟨[], [], .nop⟩, ⟨[], [(15, false)], .cy (.e 0)⟩, ⟨[], [(15, false)], .sn (.e 16)⟩, ⟨[], [(15, false)], .nop⟩, ⟨[], [(15, false)], .ln (.e 1) []⟩, ⟨[], [(15, false)], .bi .mul (.c (.n 2)) (.e 18)⟩, ⟨[], [(15, false)], .bi .neq (.e 17) (.e 19)⟩, ⟨[], [], .pk (.e 15) (.c (.b true)) (.e 20)⟩] [some 0, some 1, none, none, some 4, none, none, none, some 21, none, none])
 (.cond 8 ((.seq (.reg [⟨[], [], .nop⟩, ⟨[], [], .nop⟩, ⟨[], [], .cs .v (.b false)⟩] [none, none, some 4, some 11, none, none, none, none, none, none, none])
  (.ret))) (.skip))))
 ((.seq (.reg [⟨[], [], .li (.o .v) []⟩, ⟨[], [], .nop⟩] [some 0, some 1, none, none, some 4, some 11, none, none, none, none, none])
 ((.seq (.reg [⟨[], [], .cs .v (.n 0)⟩] [some 0, some 1, none, none, some 4, some 5, some 11, none, none, none, none])
 ((.seq ((.seq (.reg [⟨[], [], .cs .v (.n 0)⟩] [some 0, some 1, none, none, some 4, some 5, some 6, some 11, none, none, none])
 (.block 0 (.loop ((.seq ((.seq (.reg [⟨[], [], .nop⟩, ⟨[], [], .nop⟩, ⟨[], [], .sn (.e 0)⟩, ⟨[], [], .bi .lss (.e 7) (.e 11)⟩] [some 0, some 1, none, none, some 4, some 5, some 6, some 7, none, some 12, none])
   (.cond 9 (.skip) (.exit 0))))
   ((.seq (.block 1 ((.seq ((.seq (.reg [⟨[], [], .nop⟩, ⟨[], [], .nop⟩, ⟨[], [], .sx (.e 0) (.e 7)⟩, ⟨[], [], .bi .eql (.e 11) (.c (.y 117))⟩] [some 0, some 1, none, none, some 4, some 5, some 6, some 7, none, none, some 12])
    (.cond 10 ((.seq (.reg [⟨[], [], .nop⟩, ⟨[], [], .nop⟩, ⟨[], [], .nop⟩, ⟨[], [], .iy (.e 1) (.e 6)⟩, ⟨[], [], .nop⟩, ⟨[], [], .li (.o .v) [(.e 11)]⟩, ⟨[], [], .ap false (.e 5) (.e 12)⟩, ⟨[], [], .nop⟩] [some 0, some 1, none, none, some 4, some 13, some 6, some 7, none, none, none])
     ((.seq (.reg [⟨[], [], .nop⟩, ⟨[], [], .bi .add (.e 6) (.c (.n 1))⟩, ⟨[], [], .nop⟩] [some 0, some 1, none, none, some 4, some 5, some 11, some 7, none, none, none])
     (.exit 1))))) (.skip))))
    ((.seq (.reg [⟨[], [], .nop⟩, ⟨[], [], .nop⟩, ⟨[], [], .nop⟩, ⟨[], [], .ln (.e 5) []⟩, ⟨[], [], .bi .sub (.e 11) (.c (.n 1))⟩, ⟨[], [], .ix (.e 5) [] (.e 12)⟩, ⟨[], [], .nop⟩, ⟨[], [], .li (.o .v) [(.e 13)]⟩, ⟨[], [], .ap false (.e 4) (.e 14)⟩, ⟨[], [], .nop⟩] [some 0, some 1, none, none, some 15, some 5, some 6, some 7, none, none, none])
    (.reg [⟨[], [], .nop⟩, ⟨[], [], .nop⟩, ⟨[], [], .ln (.e 5) []⟩, ⟨[], [], .bi .sub (.e 11) (.c (.n 1))⟩, ⟨[], [], .sb true (.e 5) none (some (.e 12))⟩, ⟨[], [], .nop⟩] [some 0, some 1, none, none, some 4, some 13, some 6, some 7, none, none, none]))))))
   (.reg [⟨[], [], .nop⟩, ⟨[], [], .bi .add (.e 7) (.c (.n 1))⟩, ⟨[], [], .nop⟩] [some 0, some 1, none, none, some 4, some 5, some 6, some 11, none, none, none])))))))))
 ((.seq (.reg [⟨[], [], .nop⟩, ⟨[], [], .nop⟩, ⟨[], [], .cs .v (.b true)⟩] [none, none, some 4, some 11, none, none, none, none, none, none, none])
 (.ret))))))))))))))⟩

/-- loop.example/g03401/spec.PassesOf -/
def ir_spec_PassesOf : IF := ⟨1, 6, [1],
 (.seq (.reg [⟨[], [], .cs .v (.n 0)⟩] [some 0, none, none, none, none, none])
 ((.seq ((.seq (.reg [⟨[], [], .nop⟩, ⟨[], [], .ca 73 [(.e 0)] 1⟩, ⟨[], [], .un .not (.e 6)⟩] [some 0, none, none, none, some 7, none])
 (.cond 4 ((.seq (.reg [⟨[], [], .cs .v (.n (-1))⟩] [none, some 6, none, none, none, none])
  (.ret))) (.skip))))
 ((.seq (.reg [⟨[], [], .li (.o .v) []⟩, ⟨[], [], .nop⟩, ⟨[], [], .ap true (.e 6) (.e 0)⟩, ⟨[], [], .nop⟩] [none, none, some 7, none, none, none])
 ((.seq (.reg [⟨[], [], .cs .v (.n 0)⟩] [none, none, some 2, some 6, none, none])
 ((.seq (.block 0 (.loop ((.seq ((.seq (.reg [⟨[], [], .nop⟩, ⟨[], [], .ca 130 [(.e 2)] 1⟩, ⟨[], [], .un .not (.e 6)⟩] [none, none, some 2, some 3, none, some 7])
   (.cond 5 (.skip) (.exit 0))))
   (.block 1 ((.seq (.reg [⟨[], [], .nop⟩, ⟨[], [], .ca 80 [(.e 2)] 1⟩, ⟨[], [], .nop⟩] [none, none, some 6, some 3, none, none])
    (.reg [⟨[], [], .nop⟩, ⟨[], [], .bi .add (.e 3) (.c (.n 1))⟩, ⟨[], [], .nop⟩] [none, none, some 2, some 6, none, none]))))))))
 ((.seq (.reg [⟨[], [], .nop⟩, ⟨[], [], .nop⟩] [none, some 3, none, none, none, none])
 (.ret))))))))))))⟩

/-- loop.example/g03401/spec.PatternOf231 -/
def ir_spec_PatternOf231 : IF := ⟨1, 10, [1, 2],
 (.seq (.reg [⟨[], [], .cs (.o .v) (.l [])⟩, ⟨[], [], .cs .v (.b false)⟩] [some 0, none, none, none, none, none, none, none, none, none])
 ((.seq ((.seq (.reg [⟨[], [], .cs .v (.n 0)⟩] [some 0, none, none, some 10, none, none, none, none, none, none])
 (.block 0 (.loop ((.seq ((.seq (.reg [⟨[], [], .nop⟩, ⟨[], [], .nop⟩, ⟨[], [], .ln (.e 0) []⟩, ⟨[], [], .bi .lss (.e 3) (.e 10)⟩, ⟨[], [], .nop⟩, ⟨[], [(11, true)], .nop⟩, ⟨[], [(11, true)], .ca 73 [(.e 0)] 1⟩, ⟨[], [], .pk (.e 11) (.e 12) (.c (.b false))⟩] [some 0, none, none, some 3, none, none, some 13, none, none, none])
   (.cond 6 (.skip) (.exit 0))))
   ((.seq (.block 1 ((.seq (.reg [⟨[], [], .nop⟩, ⟨[], [], .bi .add (.e 3) (.c (.n 1))⟩, ⟨[], [], .nop⟩] [some 0, none, none, some 3, some 10, none, none, none, none, none])
    (.block 2 (.loop ((.seq ((.seq (.reg [⟨[], [], .nop⟩, ⟨[], [], .nop⟩, ⟨[], [], .ln (.e 0) []⟩, ⟨[], [], .bi .lss (.e 4) (.e 10)⟩] [some 0, none, none, some 3, some 4, none, none, some 11, none, none])
      (.cond 7 (.skip) (.exit 2))))
      ((.seq (.block 3 ((.seq (.reg [⟨[], [], .nop⟩, ⟨[], [], .bi .add (.e 4) (.c (.n 1))⟩, ⟨[], [], .nop⟩] [some 0, none, none, some 3, some 4, some 10, none, none, none, none])
       (.block 4 (.loop ((.seq ((.seq (.reg [⟨[], [], .nop⟩, ⟨[], [], .nop⟩, ⟨[], [], .ln (.e 0) []⟩, ⟨[], [], .bi .lss (.e 5) (.e 10)⟩] [some 0, none, none, some 3, some 4, some 5, none, none, some 11, none])
         (.cond 8 (.skip) (.exit 4))))
         ((.seq (.block 5 ((.seq (.reg [⟨[], [], .nop⟩, ⟨[], [], .nop⟩, ⟨[], [], .iy (.e 0) (.e 5)⟩, ⟨[], [], .nop⟩, ⟨[], [], .nop⟩, ⟨[], [], .nop⟩, ⟨[], [], .iy (.e 0) (.e 3)⟩, ⟨[], [], .nop⟩, ⟨[], [], .bi .lss (.e 10) (.e 11)⟩, ⟨[], [], .nop⟩, ⟨[], [(12, true)], .nop⟩, ⟨[], [(12, true)], .cy (.e 3)⟩, ⟨[], [(12, true)], .iy (.e 0) (.e 13)⟩, ⟨[], [(12, true)], .nop⟩, ⟨[], [(12, true)], .nop⟩, ⟨[], [(12, true)], .cy (.e 4)⟩, ⟨[], [(12, true)], .iy (.e 0) (.e 15)⟩, ⟨[], [(12, true)], .nop⟩, ⟨[], [(12, true)], .bi .lss (.e 14) (.e 16)⟩, ⟨[], [], .pk (.e 12) (.e 17) (.c (.b false))⟩] [some 0, none, none, some 3, some 4, some 5, none, none, none, some 18])
          (.cond 9 ((.seq (.reg [⟨[], [], .nop⟩, ⟨[], [], .nop⟩, ⟨[], [], .nop⟩, ⟨[], [], .li (.o .v) [(.e 3), (.e 4), (.e 5)]⟩, ⟨[], [], .nop⟩, ⟨[], [], .cs .v (.b true)⟩] [none, some 10, some 11, none, none, none, none, none, none, none])
           (.ret))) (.skip)))))
         (.reg [⟨[], [], .nop⟩, ⟨[], [], .bi .add (.e 5) (.c (.n 1))⟩, ⟨[], [], .nop⟩] [some 0, none, none, some 3, some 4, some 10, none, none, none, none]))))))))))
      (.reg [⟨[], [], .nop⟩, ⟨[], [], .bi .add (.e 4) (.c (.n 1))⟩, ⟨[], [], .nop⟩] [some 0, none, none, some 3, some 10, none, none, none, none, none]))))))))))
   (.reg [⟨[], [], .nop⟩, ⟨[], [], .bi .add (.e 3) (.c (.n 1))⟩, ⟨[], [], .nop⟩] [some 0, none, none, some 10, none, none, none, none, none, none])))))))))
 ((.seq (.reg [⟨[], [], .li (.o .v) []⟩, ⟨[], [], .nop⟩, ⟨[], [], .cs .v (.b false)⟩] [none, some 10, some 11, none, none, none, none, none, none, none])
 (.ret))))))⟩

/-- loop.example/g03401/spec.SortOnce -/
def ir_spec_SortOnce : IF := ⟨1, 4, [1, 2],
 (.seq (.reg [⟨[], [], .cs (.o .v) (.l [])⟩, ⟨[], [], .cs .v (.b false)⟩] [some 0, none, none, none])
 ((.seq ((.seq (.reg [⟨[], [], .nop⟩, ⟨[], [], .ca 73 [(.e 0)] 1⟩, ⟨[], [], .un .not (.e 4)⟩] [some 0, none, none, some 5])
 (.cond 3 ((.seq (.reg [⟨[], [], .li (.o .v) []⟩, ⟨[], [], .nop⟩, ⟨[], [], .cs .v (.b false)⟩] [none, some 4, some 5, none])
  (.ret))) (.skip))))
 ((.seq (.reg [⟨[], [], .nop⟩, ⟨[], [], .ca 80 [(.e 0)] 1⟩, ⟨[], [], .nop⟩, ⟨[], [], .cs .v (.b true)⟩] [none, some 4, some 5, none])
 (.ret))))))⟩

/-- loop.example/g03401/spec.l31Sort -/
def ir_spec_l31Sort : IF := ⟨1, 8, [1],
 (.seq (.reg [⟨[], [], .cs (.o .v) (.l [])⟩] [some 0, none, none, none, none, none, none, none])
 ((.seq (.reg [⟨[], [], .li (.o .v) []⟩, ⟨[], [], .nop⟩] [some 0, none, some 8, none, none, none, none, none])
 ((.seq (.reg [⟨[], [], .li (.o .v) []⟩, ⟨[], [], .nop⟩] [some 0, none, some 2, some 8, none, none, none, none])
 ((.seq ((.seq (.reg [⟨[], [], .cs .v (.n 0)⟩] [some 0, none, some 2, some 3, some 8, none, none, none])
 (.block 0 (.loop ((.seq ((.seq (.reg [⟨[], [], .nop⟩, ⟨[], [], .nop⟩, ⟨[], [], .ln (.e 0) []⟩, ⟨[], [], .bi .lss (.e 4) (.e 8)⟩] [some 0, none, some 2, some 3, some 4, some 9, none, none])
   (.cond 5 (.skip) (.exit 0))))
   ((.seq (.block 1 ((.seq (.block 2 (.loop ((.seq ((.seq (.reg [⟨[], [], .nop⟩, ⟨[], [], .ln (.e 3) []⟩, ⟨[], [], .bi .gtr (.e 8) (.c (.n 0))⟩, ⟨[], [], .nop⟩, ⟨[], [(9, true)], .nop⟩, ⟨[], [(9, true)], .nop⟩, ⟨[], [(9, true)], .ln (.e 3) []⟩, ⟨[], [(9, true)], .bi .sub (.e 10) (.c (.n 1))⟩, ⟨[], [(9, true)], .ix (.e 3) [] (.e 11)⟩, ⟨[], [(9, true)], .nop⟩, ⟨[], [(9, true)], .nop⟩, ⟨[], [(9, true)], .cy (.e 4)⟩, ⟨[], [(9, true)], .iy (.e 0) (.e 13)⟩, ⟨[], [(9, true)], .nop⟩, ⟨[], [(9, true)], .bi .lss (.e 12) (.e 14)⟩, ⟨[], [], .pk (.e 9) (.e 15) (.c (.b false))⟩] [some 0, none, some 2, some 3, some 4, none, some 16, none])
      (.cond 6 (.skip) (.exit 2))))
      (.block 3 ((.seq (.reg [⟨[], [], .nop⟩, ⟨[], [], .nop⟩, ⟨[], [], .nop⟩, ⟨[], [], .ln (.e 3) []⟩, ⟨[], [], .bi .sub (.e 8) (.c (.n 1))⟩, ⟨[], [], .ix (.e 3) [] (.e 9)⟩, ⟨[], [], .nop⟩, ⟨[], [], .li (.o .v) [(.e 10)]⟩, ⟨[], [], .ap false (.e 2) (.e 11)⟩, ⟨[], [], .nop⟩] [some 0, none, some 12, some 3, some 4, none, none, none])
       (.reg [⟨[], [], .nop⟩, ⟨[], [], .nop⟩, ⟨[], [], .ln (.e 3) []⟩, ⟨[], [], .bi .sub (.e 8) (.c (.n 1))⟩, ⟨[], [], .sb true (.e 3) none (some (.e 9))⟩, ⟨[], [], .nop⟩] [some 0, none, some 2, some 10, some 4, none, none, none]))))))))
    (.reg [⟨[], [], .nop⟩, ⟨[], [], .nop⟩, ⟨[], [], .nop⟩, ⟨[], [], .iy (.e 0) (.e 4)⟩, ⟨[], [], .nop⟩, ⟨[], [], .li (.o .v) [(.e 8)]⟩, ⟨[], [], .ap false (.e 3) (.e 9)⟩, ⟨[], [], .nop⟩] [some 0, none, some 2, some 10, some 4, none, none, none]))))
   (.reg [⟨[], [], .nop⟩, ⟨[], [], .bi .add (.e 4) (.c (.n 1))⟩, ⟨[], [], .nop⟩] [some 0, none, some 2, some 3, some 8, none, none, none])))))))))
 ((.seq (.block 4 (.loop ((.seq ((.seq (.reg [⟨[], [], .nop⟩, ⟨[], [], .ln (.e 3) []⟩, ⟨[], [], .bi .gtr (.e 8) (.c (.n 0))⟩] [none, none, some 2, some 3, none, none, none, some 9])
   (.cond 7 (.skip) (.exit 4))))
   (.block 5 ((.seq (.reg [⟨[], [], .nop⟩, ⟨[], [], .nop⟩, ⟨[], [], .nop⟩, ⟨[], [], .ln (.e 3) []⟩, ⟨[], [], .bi .sub (.e 8) (.c (.n 1))⟩, ⟨[], [], .ix (.e 3) [] (.e 9)⟩, ⟨[], [], .nop⟩, ⟨[], [], .li (.o .v) [(.e 10)]⟩, ⟨[], [], .ap false (.e 2) (.e 11)⟩, ⟨[], [], .nop⟩] [none, none, some 12, some 3, none, none, none, none])
    (.reg [⟨[], [], .nop⟩, ⟨[], [], .nop⟩, ⟨[], [], .ln (.e 3) []⟩, ⟨[], [], .bi .sub (.e 8) (.c (.n 1))⟩, ⟨[], [], .sb true (.e 3) none (some (.e 9))⟩, ⟨[], [], .nop⟩] [none, none, some 2, some 10, none, none, none, none]))))))))
 ((.seq (.reg [⟨[], [], .nop⟩, ⟨[], [], .nop⟩] [none, some 2, none, none, none, none, none, none])
 (.ret))))))))))))⟩

/-- loop.example/g03401/spec.l31Sorted -/
def ir_spec_l31Sorted : IF := ⟨1, 5, [1],
 (.seq (.reg [⟨[], [], .cs .v (.b false)⟩] [some 0, none, none, none, none])
 ((.seq ((.seq (.reg [⟨[], [], .cs .v (.n 0)⟩] [some 0, none, some 5, none, none])
 (.block 0 (.loop ((.seq ((.seq (.reg [⟨[], [], .nop⟩, ⟨[], [], .nop⟩, ⟨[], [], .ln (.e 0) []⟩, ⟨[], [], .bi .lss (.e 2) (.e 5)⟩] [some 0, none, some 2, some 6, none])
   (.cond 3 (.skip) (.exit 0))))
   ((.seq (.block 1 ((.seq (.reg [⟨[], [], .nop⟩, ⟨[], [], .nop⟩, ⟨[], [], .iy (.e 0) (.e 2)⟩, ⟨[], [], .nop⟩, ⟨[], [], .nop⟩, ⟨[], [], .bi .neq (.e 5) (.e 2)⟩] [some 0, none, some 2, none, some 6])
    (.cond 4 ((.seq (.reg [⟨[], [], .cs .v (.b false)⟩] [none, some 5, none, none, none])
     (.ret))) (.skip)))))
   (.reg [⟨[], [], .nop⟩, ⟨[], [], .bi .add (.e 2) (.c (.n 1))⟩, ⟨[], [], .nop⟩] [some 0, none, some 5, none, none])))))))))
 ((.seq (.reg [⟨[], [], .cs .v (.b true)⟩] [none, some 5, none, none, none])
 (.ret))))))⟩

end Go.Cat

namespace Go.Cat
/-- cmp.Less[int] -/
def ir_cmp_Less_int_ : IF := ⟨2, 3, [2],
 (.seq (.reg [⟨[], [], .cs .v (.b false)⟩] [some 0, some 1, none])
 ((.seq (.reg [⟨[], [], .nop⟩, ⟨[], [], .ca 211 [(.e 0)] 1⟩, ⟨[], [], .nop⟩, ⟨[], [(3, true)], .cy (.e 1)⟩, ⟨[], [(3, true)], .ca 211 [(.e 4)] 1⟩, ⟨[], [(3, true)], .un .not (.e 5)⟩, ⟨[], [], .pk (.e 3) (.e 6) (.c (.b false))⟩, ⟨[], [], .nop⟩, ⟨[], [(7, false)], .cy (.e 0)⟩, ⟨[], [(7, false)], .cy (.e 1)⟩, ⟨[], [(7, false)], .bi .lss (.e 8) (.e 9)⟩, ⟨[], [], .pk (.e 7) (.c (.b true)) (.e 10)⟩, ⟨[], [], .nop⟩] [none, none, some 11])
 (.ret))))⟩

/-- cmp.isNaN[int] -/
def ir_cmp_isNaN_int_ : IF := ⟨1, 2, [1],
 (.seq (.reg [⟨[], [], .cs .v (.b false)⟩] [some 0, none])
 ((.seq (.reg [⟨[], [], .nop⟩, ⟨[], [], .nop⟩, ⟨[], [], .bi .neq (.e 0) (.e 0)⟩, ⟨[], [], .nop⟩] [none, some 2])
 (.ret))))⟩

/-- slices.Contains[[]int,int] -/
def ir_slices_Contains___int_int_ : IF := ⟨2, 3, [2],
 (.seq (.reg [⟨[], [], .cs .v (.b false)⟩] [some 0, some 1, none])
 ((.seq (.reg [⟨[], [], .nop⟩, ⟨[], [], .nop⟩, ⟨[], [], .ca 179 [(.e 0), (.e 1)] 1⟩, ⟨[], [], .bi .geq (.e 3) (.c (.n 0))⟩, ⟨[], [], .nop⟩] [none, none, some 4])
 (.ret))))⟩

/-- slices.Equal[[]string,string] -/
def ir_slices_Equal___string_string_ : IF := ⟨2, 9, [2],
 (.seq (.reg [⟨[], [], .cs .v (.b false)⟩] [some 0, some 1, none, none, none, none, none, none, none])
 ((.seq ((.seq (.reg [⟨[], [], .nop⟩, ⟨[], [], .ln (.e 0) []⟩, ⟨[], [], .nop⟩, ⟨[], [], .ln (.e 1) []⟩, ⟨[], [], .bi .neq (.e 9) (.e 10)⟩] [some 0, some 1, none, none, some 11, none, none, none, none])
 (.cond 4 ((.seq (.reg [⟨[], [], .cs .v (.b false)⟩] [none, none, some 9, none, none, none, none, none, none])
  (.ret))) (.skip))))
 ((.seq ((.seq (.reg [⟨[], [], .nop⟩, ⟨[], [], .ln (.e 0) []⟩, ⟨[], [], .cs .v (.n 0)⟩] [some 0, some 1, none, none, none, some 9, some 10, none, none])
 (.block 0 (.loop ((.seq (.reg [⟨[], [], .bi .lss (.e 6) (.e 5)⟩] [some 0, some 1, none, none, none, some 5, some 6, some 9, none])
   ((.seq (.cond 7 (.skip) (.exit 0))
   ((.seq (.block 1 ((.seq (.reg [⟨[], [], .nop⟩, ⟨[], [], .nop⟩] [some 0, some 1, none, some 6, none, some 5, some 6, none, none])
    ((.seq (.reg [⟨[], [], .nop⟩, ⟨[], [], .nop⟩, ⟨[], [], .iy (.e 0) (.e 3)⟩, ⟨[], [], .nop⟩, ⟨[], [], .nop⟩, ⟨[], [], .nop⟩, ⟨[], [], .iy (.e 1) (.e 3)⟩, ⟨[], [], .nop⟩, ⟨[], [], .bi .neq (.e 9) (.e 10)⟩] [some 0, some 1, none, none, none, some 5, some 6, none, some 11])
    (.cond 8 ((.seq (.reg [⟨[], [], .cs .v (.b false)⟩] [none, none, some 9, none, none, none, none, none, none])
     (.ret))) (.skip)))))))
   (.reg [⟨[], [], .bi .add (.e 6) (.c (.n 1))⟩, ⟨[], [], .nop⟩] [some 0, some 1, none, none, none, some 5, some 9, none, none])))))))))))
 ((.seq (.reg [⟨[], [], .cs .v (.b true)⟩] [none, none, some 9, none, none, none, none, none, none])
 (.ret))))))))⟩

/-- slices.Index[[]int,int] -/
def ir_slices_Index___int_int_ : IF := ⟨2, 8, [2],
 (.seq (.reg [⟨[], [], .cs .v (.n 0)⟩] [some 0, some 1, none, none, none, none, none, none])
 ((.seq ((.seq (.reg [⟨[], [], .nop⟩, ⟨[], [], .ln (.e 0) []⟩, ⟨[], [], .cs .v (.n 0)⟩] [some 0, some 1, none, none, some 8, some 9, none, none])
 (.block 0 (.loop ((.seq (.reg [⟨[], [], .bi .lss (.e 5) (.e 4)⟩] [some 0, some 1, none, none, some 4, some 5, some 8, none])
   ((.seq (.cond 6 (.skip) (.exit 0))
   ((.seq (.block 1 ((.seq (.reg [⟨[], [], .nop⟩, ⟨[], [], .nop⟩] [some 0, some 1, none, some 5, some 4, some 5, none, none])
    ((.seq (.reg [⟨[], [], .nop⟩, ⟨[], [], .nop⟩, ⟨[], [], .nop⟩, ⟨[], [], .iy (.e 0) (.e 3)⟩, ⟨[], [], .nop⟩, ⟨[], [], .bi .eql (.e 1) (.e 8)⟩] [some 0, some 1, none, some 3, some 4, some 5, none, some 9])
    (.cond 7 ((.seq (.reg [⟨[], [], .nop⟩, ⟨[], [], .nop⟩] [none, none, some 3, none, none, none, none, none])
     (.ret))) (.skip)))))))
   (.reg [⟨[], [], .bi .add (.e 5) (.c (.n 1))⟩, ⟨[], [], .nop⟩] [some 0, some 1, none, none, some 4, some 8, none, none])))))))))))
 ((.seq (.reg [⟨[], [], .cs .v (.n (-1))⟩] [none, none, some 8, none, none, none, none, none])
 (.ret))))))⟩

/-- slices.IsSorted[[]int,int] -/
def ir_slices_IsSorted___int_int_ : IF := ⟨1, 5, [1],
 (.seq (.reg [⟨[], [], .cs .v (.b false)⟩] [some 0, none, none, none, none])
 ((.seq ((.seq (.reg [⟨[], [], .nop⟩, ⟨[], [], .ln (.e 0) []⟩, ⟨[], [], .bi .sub (.e 5) (.c (.n 1))⟩, ⟨[], [], .nop⟩] [some 0, none, some 6, none, none])
 (.block 0 (.loop ((.seq ((.seq (.reg [⟨[], [], .nop⟩, ⟨[], [], .bi .gtr (.e 2) (.c (.n 0))⟩] [some 0, none, some 2, some 5, none])
   (.cond 3 (.skip) (.exit 0))))
   ((.seq (.block 1 ((.seq (.reg [⟨[], [], .nop⟩, ⟨[], [], .nop⟩, ⟨[], [], .iy (.e 0) (.e 2)⟩, ⟨[], [], .nop⟩, ⟨[], [], .nop⟩, ⟨[], [], .nop⟩, ⟨[], [], .bi .sub (.e 2) (.c (.n 1))⟩, ⟨[], [], .iy (.e 0) (.e 6)⟩, ⟨[], [], .nop⟩, ⟨[], [], .ca 203 [(.e 5), (.e 7)] 1⟩] [some 0, none, some 2, none, some 8])
    (.cond 4 ((.seq (.reg [⟨[], [], .cs .v (.b false)⟩] [none, some 5, none, none, none])
     (.ret))) (.skip)))))
   (.reg [⟨[], [], .nop⟩, ⟨[], [], .bi .sub (.e 2) (.c (.n 1))⟩, ⟨[], [], .nop⟩] [some 0, none, some 5, none, none])))))))))
 ((.seq (.reg [⟨[], [], .cs .v (.b true)⟩] [none, some 5, none, none, none])
 (.ret))))))⟩

/-- slices.Reverse[[]int,int] -/
def ir_slices_Reverse___int_int_ : IF := ⟨1, 4, [0],
 (.seq (.reg [⟨[], [], .nop⟩, ⟨[], [], .ln (.e 0) []⟩, ⟨[], [], .bi .sub (.e 4) (.c (.n 1))⟩, ⟨[], [], .cs .v (.n 0)⟩, ⟨[], [], .nop⟩] [some 0, some 6, some 5, none])
 (.block 0 (.loop ((.seq ((.seq (.reg [⟨[], [], .nop⟩, ⟨[], [], .nop⟩, ⟨[], [], .bi .lss (.e 1) (.e 2)⟩] [some 0, some 1, some 2, some 4])
   (.cond 3 (.skip) (.exit 0))))
   ((.seq (.block 1 (.reg [⟨[], [], .nop⟩, ⟨[], [], .nop⟩, ⟨[], [], .nop⟩, ⟨[], [], .nop⟩, ⟨[], [], .nop⟩, ⟨[], [], .nop⟩, ⟨[], [], .ix (.e 0) [] (.e 2)⟩, ⟨[], [], .nop⟩, ⟨[], [], .nop⟩, ⟨[], [], .nop⟩, ⟨[], [], .ix (.e 0) [] (.e 1)⟩, ⟨[], [], .nop⟩, ⟨[], [], .ix (.e 0) [] (.e 1)⟩, ⟨[], [], .up 0 [.e 1] (.e 4)⟩, ⟨[], [], .ix (.e 7) [] (.e 2)⟩, ⟨[], [], .up 7 [.e 2] (.e 5)⟩] [some 9, some 1, some 2, none]))
   (.reg [⟨[], [], .nop⟩, ⟨[], [], .bi .add (.e 1) (.c (.n 1))⟩, ⟨[], [], .nop⟩, ⟨[], [], .bi .sub (.e 2) (.c (.n 1))⟩, ⟨[], [], .nop⟩, ⟨[], [], .nop⟩] [some 0, some 4, some 5, none]))))))))⟩

end Go.Cat

namespace Go.Cat
/-- loop.example/g03401/laws.FnExactSortOnce -/
def ir_laws_FnExactSortOnce : IF := ⟨1, 21, [1],
 (.seq (.reg [⟨[], [], .cs .v (.b false)⟩] [some 0, none, none, none, none, none, none, none, none, none, none, none, none, none, none, none, none, none, none, none, none])
 ((.seq ((.seq (.reg [⟨[], [], .nop⟩, ⟨[], [], .ln (.e 0) []⟩, ⟨[], [], .bi .gtr (.e 21) (.c (.n 1048576))⟩] [some 0, none, none, none, none, none, none, none, none, none, none, none, some 22, none, none, none, none, none, none, none, none])
 (.cond 12 ((.seq (.reg [⟨[], [], .cs .v (.b true)⟩] [none, some 21, none, none, none, none, none, none, none, none, none, none, none, none, none, none, none, none, none, none, none])
  (.ret))) (.skip))))
 ((.seq (.reg [⟨[], [], .nop⟩, ⟨[], [], .ca 42 [(.e 0)] 1⟩, ⟨[], [], .ca 61 [(.e 21)] 2⟩, ⟨[], [], .nop⟩, ⟨[], [], .nop⟩, ⟨[], [], .nop⟩, ⟨[], [], .nop⟩, ⟨[], [], .nop⟩] [some 0, none, some 22, some 23, none, none, none, none, none, none, none, none, none, none, none, none, none, none, none, none, none])
 ((.seq (.reg [⟨[], [], .nop⟩, ⟨[], [], .ca 42 [(.e 0)] 1⟩, ⟨[], [], .nop⟩] [some 0, none, some 2, some 3, some 21, none, none, none, none, none, none, none, none, none, none, none, none, none, none, none, none])
 ((.seq (.reg [⟨[], [], .nop⟩, ⟨[], [], .ca 62 [(.e 4)] 2⟩, ⟨[], [], .nop⟩, ⟨[], [], .nop⟩, ⟨[], [], .nop⟩, ⟨[], [], .nop⟩, ⟨[], [], .nop⟩] [some 0, none, some 2, some 3, some 4, some 21, some 22, none, none, none, none, none, none, none, none, none, none, none, none, none, none])
 ((.seq ((.seq (.reg [⟨[], [], .nop⟩, ⟨[], [], .nop⟩, ⟨[], [], .ca 44 [(.e 5), (.e 2)] 1⟩, ⟨[], [], .un .not (.e 21)⟩, ⟨[], [], .nop⟩, ⟨[], [(22, false)], .cy (.e 6)⟩, ⟨[], [(22, false)], .cy (.e 3)⟩, ⟨[], [(22, false)], .bb .neq (.e 23) (.e 24)⟩, ⟨[], [], .pk (.e 22) (.c (.b true)) (.e 25)⟩] [some 0, none, some 2, some 3, some 4, some 5, some 6, none, none, none, none, none, none, some 26, none, none, none, none, none, none, none])
 (.cond 13 ((.seq (.reg [⟨[], [], .cs .v (.b false)⟩] [none, some 21, none, none, none, none, none, none, none, none, none, none, none, none, none, none, none, none, none, none, none])
  (.ret))) (.skip))))
 ((.seq ((.seq (.reg [⟨[], [], .nop⟩, ⟨[], [], .nop⟩, ⟨[], [], .ca 42 [(.e 0)] 1⟩, ⟨[], [], .ca 44 [(.e 4), (.e 21)] 1⟩, ⟨[], [], .un .not (.e 22)⟩] [some 0, none, some 2, some 3, some 4, some 5, some 6, none, none, none, none, none, none, none, some 23, none, none, none, none, none, none])
 (.cond 14 ((.seq (.reg [⟨[], [], .cs .v (.b false)⟩] [none, some 21, none, none, none, none, none, none, none, none, none, none, none, none, none, none, none, none, none, none, none])
  (.ret))) (.skip))))
 ((.seq (.reg [⟨[], [], .cs .v (.n 1)⟩] [some 0, none, some 2, some 3, some 4, some 5, some 6, some 21, none, none, none, none, none, none, none, none, none, none, none, none, none])
 ((.seq (.reg [⟨[], [], .nop⟩, ⟨[], [], .nop⟩, ⟨[], [], .ca 45 [(.e 4), (.e 7)] 2⟩, ⟨[], [], .nop⟩] [some 0, none, some 2, some 3, none, some 5, some 6, some 21, none, none, none, none, none, none, none, none, none, none, none, none, none])
 ((.seq ((.seq (.reg [⟨[], [], .nop⟩, ⟨[], [], .bi .lss (.e 7) (.c (.n 0))⟩, ⟨[], [], .nop⟩, ⟨[], [(21, false)], .nop⟩, ⟨[], [(21, false)], .cy (.e 2)⟩, ⟨[], [(21, false)], .ca 44 [(.e 5), (.e 22)] 1⟩, ⟨[], [(21, false)], .un .not (.e 23)⟩, ⟨[], [], .pk (.e 21) (.c (.b true)) (.e 24)⟩, ⟨[], [], .nop⟩, ⟨[], [(25, false)], .cy (.e 6)⟩, ⟨[], [(25, false)], .cy (.e 3)⟩, ⟨[], [(25, false)], .bb .neq (.e 26) (.e 27)⟩, ⟨[], [], .pk (.e 25) (.c (.b true)) (.e 28)⟩] [some 0, none, some 2, some 3, none, some 5, none, none, none, none, none, none, none, none, none, some 29, none, none, none, none, none])
 (.cond 15 ((.seq (.reg [⟨[], [], .cs .v (.b false)⟩] [none, some 21, none, none, none, none, none, none, none, none, none, none, none, none, none, none, none, none, none, none, none])
  (.ret))) (.skip))))
 ((.seq (.reg [⟨[], [], .cs .v (.n 1)⟩] [some 0, none, some 2, some 3, none, some 5, none, none, some 21, none, none, none, none, none, none, none, none, none, none, none, none])
 ((.seq (.reg [⟨[], [], .nop⟩, ⟨[], [], .nop⟩, ⟨[], [], .ca 45 [(.e 5), (.e 8)] 2⟩, ⟨[], [], .nop⟩] [some 0, none, some 2, some 3, none, some 22, none, none, some 21, none, none, none, none, none, none, none, none, none, none, none, none])
 ((.seq (.reg [⟨[], [], .cs .v (.n 1)⟩] [some 0, none, some 2, some 3, none, some 5, none, none, some 8, some 21, none, none, none, none, none, none, none, none, none, none, none])
 ((.seq (.reg [⟨[], [], .nop⟩, ⟨[], [], .nop⟩, ⟨[], [], .ca 46 [(.e 5), (.e 9)] 1⟩, ⟨[], [], .nop⟩] [some 0, none, some 2, some 3, none, some 5, none, none, some 8, some 21, none, none, none, none, none, none, none, none, none, none, none])
 ((.seq ((.seq (.reg [⟨[], [], .nop⟩, ⟨[], [], .bi .lss (.e 9) (.c (.n 0))⟩] [some 0, none, some 2, some 3, none, some 5, none, none, some 8, some 9, none, none, none, none, none, none, some 21, none, none, none, none])
 (.cond 16 ((.seq (.reg [⟨[], [], .cs .v (.b false)⟩] [none, some 21, none, none, none, none, none, none, none, none, none, none, none, none, none, none, none, none, none, none, none])
  (.ret))) (.skip))))
 ((.seq ((.seq (.reg [⟨[], [], .nop⟩, ⟨[], [], .nop⟩, ⟨[], [], .bi .neq (.e 9) (.e 8)⟩] [some 0, none, some 2, some 3, none, some 5, none, none, some 8, none, none, none, none, none, none, none, none, some 21, none, none, none])
 (.cond 17 ((.seq (.reg [⟨[], [], .cs .v (.b false)⟩] [none, some 21, none, none, none, none, none, none, none, none, none, none, none, none, none, none, none, none, none, none, none])
  (.ret))) (.skip))))
 ((.seq (.reg [⟨[], [], .nop⟩, ⟨[], [], .ca 42 [(.e 0)] 1⟩, ⟨[], [], .ca 62 [(.e 21)] 2⟩, ⟨[], [], .nop⟩, ⟨[], [], .nop⟩, ⟨[], [], .nop⟩, ⟨[], [], .nop⟩, ⟨[], [], .nop⟩] [none, none, some 2, some 3, none, some 5, none, none, some 8, none, some 22, some 23, none, none, none, none, none, none, none, none, none])
 ((.seq ((.seq (.reg [⟨[], [], .nop⟩, ⟨[], [], .nop⟩, ⟨[], [], .ca 44 [(.e 10), (.e 2)] 1⟩, ⟨[], [], .un .not (.e 21)⟩, ⟨[], [], .nop⟩, ⟨[], [(22, false)], .cy (.e 11)⟩, ⟨[], [(22, false)], .cy (.e 3)⟩, ⟨[], [(22, false)], .bb .neq (.e 23) (.e 24)⟩, ⟨[], [], .pk (.e 22) (.c (.b true)) (.e 25)⟩] [none, none, none, none, none, some 5, none, none, some 8, none, none, none, none, none, none, none, none, none, some 26, none, none])
 (.cond 18 ((.seq (.reg [⟨[], [], .cs .v (.b false)⟩] [none, some 21, none, none, none, none, none, none, none, none, none, none, none, none, none, none, none, none, none, none, none])
  (.ret))) (.skip))))
 ((.seq (.reg [⟨[], [], .cs .v (.n 1)⟩] [none, none, none, none, none, some 5, none, none, some 8, some 21, none, none, none, none, none, none, none, none, none, none, none])
 ((.seq (.reg [⟨[], [], .nop⟩, ⟨[], [], .nop⟩, ⟨[], [], .ca 46 [(.e 5), (.e 9)] 1⟩, ⟨[], [], .nop⟩] [none, none, none, none, none, none, none, none, some 8, some 21, none, none, none, none, none, none, none, none, none, none, none])
 ((.seq ((.seq (.reg [⟨[], [], .nop⟩, ⟨[], [], .bi .lss (.e 9) (.c (.n 0))⟩] [none, none, none, none, none, none, none, none, some 8, some 9, none, none, none, none, none, none, none, none, none, some 21, none])
 (.cond 19 ((.seq (.reg [⟨[], [], .cs .v (.b false)⟩] [none, some 21, none, none, none, none, none, none, none, none, none, none, none, none, none, none, none, none, none, none, none])
  (.ret))) (.skip))))
 ((.seq ((.seq (.reg [⟨[], [], .nop⟩, ⟨[], [], .nop⟩, ⟨[], [], .bi .neq (.e 9) (.e 8)⟩] [none, none, none, none, none, none, none, none, none, none, none, none, none, none, none, none, none, none, none, none, some 21])
 (.cond 20 ((.seq (.reg [⟨[], [], .cs .v (.b false)⟩] [none, some 21, none, none, none, none, none, none, none, none, none, none, none, none, none, none, none, none, none, none, none])
  (.ret))) (.skip))))
 ((.seq (.reg [⟨[], [], .cs .v (.b true)⟩] [none, some 21, none, none, none, none, none, none, none, none, none, none, none, none, none, none, none, none, none, none, none])
 (.ret))))))))))))))))))))))))))))))))))))))))))))))⟩

end Go.Cat

namespace Go.Cat
/-- loop.example/g03401/impl.count -/
def ir_impl_count : IF := ⟨2, 7, [2],
 (.seq (.reg [⟨[], [], .cs .v (.n 0)⟩] [some 0, some 1, none, none, none, none, none])
 ((.seq (.reg [⟨[], [], .cs .v (.n 0)⟩] [some 0, some 1, none, some 7, none, none, none])
 ((.seq ((.seq (.reg [⟨[], [], .cs .v (.n 0)⟩] [some 0, some 1, none, some 3, some 7, none, none])
 (.block 0 (.loop ((.seq ((.seq (.reg [⟨[], [], .nop⟩, ⟨[], [], .nop⟩, ⟨[], [], .sn (.e 0)⟩, ⟨[], [], .bi .lss (.e 4) (.e 7)⟩] [some 0, some 1, none, some 3, some 4, some 8, none])
   (.cond 5 (.skip) (.exit 0))))
   ((.seq (.block 1 ((.seq (.reg [⟨[], [], .nop⟩, ⟨[], [], .nop⟩, ⟨[], [], .sx (.e 0) (.e 4)⟩, ⟨[], [], .nop⟩, ⟨[], [], .bi .eql (.e 7) (.e 1)⟩] [some 0, some 1, none, some 3, some 4, none, some 8])
    (.cond 6 (.reg [⟨[], [], .nop⟩, ⟨[], [], .bi .add (.e 3) (.c (.n 1))⟩, ⟨[], [], .nop⟩] [some 0, some 1, none, some 7, some 4, none, none]) (.skip)))))
   (.reg [⟨[], [], .nop⟩, ⟨[], [], .bi .add (.e 4) (.c (.n 1))⟩, ⟨[], [], .nop⟩] [some 0, some 1, none, some 3, some 7, none, none])))))))))
 ((.seq (.reg [⟨[], [], .nop⟩, ⟨[], [], .nop⟩] [none, none, some 3, none, none, none, none])
 (.ret))))))))⟩

end Go.Cat

namespace Go.Cat
/-- loop.example/g03401/impl.DyckOfCircle -/
def ir_impl_DyckOfCircle : IF := ⟨1, 7, [1, 2],
 (.seq (.reg [⟨[], [], .cs .v (.s [])⟩, ⟨[], [], .cs .v (.b false)⟩] [some 0, none, none, none, none, none, none])
 ((.seq (.reg [⟨[], [], .nop⟩, ⟨[], [], .ca 129 [(.e 0)] 2⟩, ⟨[], [], .nop⟩, ⟨[], [], .nop⟩, ⟨[], [], .nop⟩, ⟨[], [], .nop⟩, ⟨[], [], .nop⟩] [some 0, none, none, some 7, some 8, none, none])
 ((.seq ((.seq (.reg [⟨[], [], .nop⟩, ⟨[], [], .un .not (.e 4)⟩] [some 0, none, none, some 3, none, none, some 7])
 (.cond 6 ((.seq (.reg [⟨[], [], .cs .v (.s [])⟩, ⟨[], [], .cs .v (.b false)⟩] [none, some 7, some 8, none, none, none, none])
  (.ret))) (.skip))))
 ((.seq (.reg [⟨[], [], .nop⟩, ⟨[], [], .nop⟩, ⟨[], [], .ss (.e 0) (some (.e 3)) none⟩, ⟨[], [], .nop⟩, ⟨[], [], .nop⟩, ⟨[], [], .ss (.e 0) none (some (.e 3))⟩, ⟨[], [], .bi .add (.e 7) (.e 8)⟩, ⟨[], [], .nop⟩] [none, none, none, none, none, some 9, none])
 ((.seq (.reg [⟨[], [], .nop⟩, ⟨[], [], .nop⟩, ⟨[], [], .sn (.e 5)⟩, ⟨[], [], .bi .sub (.e 7) (.c (.n 1))⟩, ⟨[], [], .ss (.e 5) none (some (.e 8))⟩, ⟨[], [], .nop⟩, ⟨[], [], .cs .v (.b true)⟩] [none, some 9, some 10, none, none, none, none])
 (.ret))))))))))⟩

/-- loop.example/g03401/impl.GoodShift -/
def ir_impl_GoodShift : IF := ⟨1, 9, [1, 2],
 (.seq (.reg [⟨[], [], .cs .v (.n 0)⟩, ⟨[], [], .cs .v (.b false)⟩] [some 0, none, none, none, none, none, none, none, none])
 ((.seq ((.seq (.reg [⟨[], [], .nop⟩, ⟨[], [], .ca 176 [(.e 0)] 1⟩, ⟨[], [], .un .not (.e 9)⟩] [some 0, none, none, none, some 10, none, none, none, none])
 (.cond 4 ((.seq (.reg [⟨[], [], .cs .v (.n 0)⟩, ⟨[], [], .cs .v (.b false)⟩] [none, some 9, some 10, none, none, none, none, none, none])
  (.ret))) (.skip))))
 ((.seq ((.seq (.reg [⟨[], [], .nop⟩, ⟨[], [], .sn (.e 0)⟩, ⟨[], [], .cs .v (.n 0)⟩] [some 0, none, none, none, none, some 9, some 10, none, none])
 (.block 0 (.loop ((.seq (.reg [⟨[], [], .bi .lss (.e 6) (.e 5)⟩] [some 0, none, none, none, none, some 5, some 6, some 9, none])
   ((.seq (.cond 7 (.skip) (.exit 0))
   ((.seq (.block 1 ((.seq (.reg [⟨[], [], .nop⟩, ⟨[], [], .nop⟩] [some 0, none, none, some 6, none, some 5, some 6, none, none])
    ((.seq (.reg [⟨[], [], .nop⟩, ⟨[], [], .nop⟩, ⟨[], [], .ca 177 [(.e 0), (.e 3)] 1⟩] [some 0, none, none, some 3, none, some 5, some 6, none, some 9])
    (.cond 8 ((.seq (.reg [⟨[], [], .nop⟩, ⟨[], [], .nop⟩, ⟨[], [], .cs .v (.b true)⟩] [none, some 3, some 9, none, none, none, none, none, none])
     (.ret))) (.skip)))))))
   (.reg [⟨[], [], .bi .add (.e 6) (.c (.n 1))⟩, ⟨[], [], .nop⟩] [some 0, none, none, none, none, some 5, some 9, none, none])))))))))))
 ((.seq (.reg [⟨[], [], .cs .v (.n 0)⟩, ⟨[], [], .cs .v (.b false)⟩] [none, some 9, some 10, none, none, none, none, none, none])
 (.ret))))))))⟩

/-- loop.example/g03401/impl.IsBalanced -/
def ir_impl_IsBalanced : IF := ⟨1, 2, [1],
 (.seq (.reg [⟨[], [], .cs .v (.b false)⟩] [some 0, none])
 ((.seq (.reg [⟨[], [], .nop⟩, ⟨[], [], .sn (.e 0)⟩, ⟨[], [], .bi .leq (.e 2) (.c (.n 17))⟩, ⟨[], [], .nop⟩, ⟨[], [(3, true)], .cy (.e 0)⟩, ⟨[], [(3, true)], .ca 65 [(.e 4)] 1⟩, ⟨[], [], .pk (.e 3) (.e 5) (.c (.b false))⟩, ⟨[], [], .nop⟩, ⟨[], [(6, true)], .cy (.e 0)⟩, ⟨[], [(6, true)], .ca 66 [(.e 7), (.c (.y 100))] 1⟩, ⟨[], [(6, true)], .cy (.e 0)⟩, ⟨[], [(6, true)], .ca 66 [(.e 9), (.c (.y 117))] 1⟩, ⟨[], [(6, true)], .bi .add (.e 10) (.c (.n 1))⟩, ⟨[], [(6, true)], .bi .eql (.e 8) (.e 11)⟩, ⟨[], [], .pk (.e 6) (.e 12) (.c (.b false))⟩, ⟨[], [], .nop⟩] [none, some 13])
 (.ret))))⟩

/-- loop.example/g03401/impl.areSteps -/
def ir_impl_areSteps : IF := ⟨1, 2, [1],
 (.seq (.reg [⟨[], [], .cs .v (.b false)⟩] [some 0, none])
 ((.seq (.reg [⟨[], [], .nop⟩, ⟨[], [], .ca 66 [(.e 0), (.c (.y 117))] 1⟩, ⟨[], [], .nop⟩, ⟨[], [], .ca 66 [(.e 0), (.c (.y 100))] 1⟩, ⟨[], [], .bi .add (.e 2) (.e 3)⟩, ⟨[], [], .nop⟩, ⟨[], [], .sn (.e 0)⟩, ⟨[], [], .bi .eql (.e 4) (.e 5)⟩, ⟨[], [], .nop⟩] [none, some 6])
 (.ret))))⟩

/-- loop.example/g03401/impl.good -/
def ir_impl_good : IF := ⟨2, 4, [2],
 (.seq (.reg [⟨[], [], .cs .v (.b false)⟩] [some 0, some 1, none, none])
 ((.seq (.reg [⟨[], [], .nop⟩, ⟨[], [], .nop⟩, ⟨[], [], .ss (.e 0) (some (.e 1)) none⟩, ⟨[], [], .nop⟩, ⟨[], [], .nop⟩, ⟨[], [], .ss (.e 0) none (some (.e 1))⟩, ⟨[], [], .bi .add (.e 4) (.e 5)⟩, ⟨[], [], .nop⟩] [none, none, none, some 6])
 ((.seq (.reg [⟨[], [], .nop⟩, ⟨[], [], .nop⟩, ⟨[], [], .sn (.e 3)⟩, ⟨[], [], .bi .sub (.e 4) (.c (.n 1))⟩, ⟨[], [], .sx (.e 3) (.e 5)⟩, ⟨[], [], .bi .eql (.e 6) (.c (.y 100))⟩, ⟨[], [], .nop⟩, ⟨[], [(7, true)], .cy (.e 3)⟩, ⟨[], [(7, true)], .cy (.e 3)⟩, ⟨[], [(7, true)], .sn (.e 9)⟩, ⟨[], [(7, true)], .bi .sub (.e 10) (.c (.n 1))⟩, ⟨[], [(7, true)], .ss (.e 8) none (some (.e 11))⟩, ⟨[], [(7, true)], .ca 67 [(.e 12)] 1⟩, ⟨[], [], .pk (.e 7) (.e 13) (.c (.b false))⟩, ⟨[], [], .nop⟩] [none, none, some 14, none])
 (.ret))))))⟩

end Go.Cat

