/-
  The walk's equations, in one: 'simp only' takes its parts.
-/
import Derived.Test.YtdifmcppfcbgdaaCatThree
import Derived.WalkKit
import Derived.ProofKit
import Derived.OpenShut
import Derived.Below
import Derived.Carry
import Derived.ChangeSlices
import Derived.ChangeMaps5
import Derived.SliceStrings
namespace Go.Cat

set_option maxRecDepth 10000

theorem vc :
    (∀ {K : Nat → List D → List D → Prop} {a b : S} {Q : X → Env → Prop} {e : Env}, wpS K (.seq a b) Q e = wpS K a (seqQ K b Q) e) ∧
    (∀ {K : Nat → List D → List D → Prop} {id : Nat} {b : S} {Q : X → Env → Prop} {e : Env}, wpS K (.block id b) Q e = wpS K b (blkQ id Q) e) ∧
    (∀ {K : Nat → List D → List D → Prop} {Q : X → Env → Prop} {e : Env}, wpS K .skip Q e = Q .n e) ∧
    (∀ {K : Nat → List D → List D → Prop} {id : Nat} {Q : X → Env → Prop} {e : Env}, wpS K (.exit id) Q e = Q (.ex id) e) ∧
    (∀ {K : Nat → List D → List D → Prop} {Q : X → Env → Prop} {e : Env}, wpS K .ret Q e = Q .r e) ∧
    (∀ {K : Nat → List D → List D → Prop} {its : List It} {out : List (Option Nat)} {Q : X → Env → Prop} {e : Env}, wpS K (.reg its out) Q e = wpIts K its e (regQ out Q)) ∧
    (∀ {K : Nat → List D → List D → Prop} {n : Nat} {x y : S} {Q : X → Env → Prop} {e : Env}, wpS K (.cond n x y) Q e = cndQ K x y Q (e.set n .u) (e.E n)) ∧
    (∀ {K : Nat → List D → List D → Prop} {b : S} {Q : X → Env → Prop} {e : Env}, seqQ K b Q .n e = wpS K b Q e) ∧
    (∀ {K : Nat → List D → List D → Prop} {b : S} {Q : X → Env → Prop} {e : Env} {j : Nat}, seqQ K b Q (.ex j) e = Q (.ex j) e) ∧
    (∀ {K : Nat → List D → List D → Prop} {b : S} {Q : X → Env → Prop} {e : Env}, seqQ K b Q .r e = Q .r e) ∧
    (∀ {id : Nat} {Q : X → Env → Prop} {e : Env}, blkQ id Q .n e = Q .n e) ∧
    (∀ {id : Nat} {Q : X → Env → Prop} {e : Env} {j : Nat}, blkQ id Q (.ex j) e = if j = id then Q .n e else Q (.ex j) e) ∧
    (∀ {id : Nat} {Q : X → Env → Prop} {e : Env}, blkQ id Q .r e = Q .r e) ∧
    (∀ {out : List (Option Nat)} {Q : X → Env → Prop} {e : Env}, regQ out Q e = Q .n (outE out e)) ∧
    (∀ {K : Nat → List D → List D → Prop} {r : List It} {Q : Env → Prop} {e : Env}, itsQ K r Q e = wpIts K r e Q) ∧
    (∀ {e : Env} {Q : Env → Prop} {d : D}, valQ e Q (some d) = Q (e ++ [d])) ∧
    (∀ {K : Nat → List D → List D → Prop} {x y : S} {Q : X → Env → Prop} {e : Env}, cndQ K x y Q e (.b true) = wpS K x Q e) ∧
    (∀ {K : Nat → List D → List D → Prop} {x y : S} {Q : X → Env → Prop} {e : Env}, cndQ K x y Q e (.b false) = wpS K y Q e) ∧
    (∀ {R : Env → Prop} {Q : X → Env → Prop} {e : Env}, lpQ R Q .n e = R e) ∧
    (∀ {R : Env → Prop} {Q : X → Env → Prop} {e : Env} {j : Nat}, lpQ R Q (.ex j) e = Q (.ex j) e) ∧
    (∀ {R : Env → Prop} {Q : X → Env → Prop} {e : Env}, lpQ R Q .r e = Q .r e) ∧
    (∀ {res : List Nat} {rs : List D} {e : Env}, endQ res rs .n e = (rs = res.map e.E)) ∧
    (∀ {res : List Nat} {rs : List D} {e : Env}, endQ res rs .r e = (rs = res.map e.E)) ∧
    (∀ {res : List Nat} {P : List D → Prop} {e : Env}, exQ res P .n e = P (res.map e.E)) ∧
    (∀ {res : List Nat} {P : List D → Prop} {e : Env}, exQ res P .r e = P (res.map e.E)) ∧
    (∀ {K : Nat → List D → List D → Prop} {e : Env} {Q : Env → Prop}, wpIts K [] e Q = Q e) ∧
    (∀ {K : Nat → List D → List D → Prop} {it : It} {r : List It} {e : Env} {Q : Env → Prop}, wpIts K (it :: r) e Q = wpIt K it e (itsQ K r Q)) ∧
    (∀ {K : Nat → List D → List D → Prop} {z : List (Option Nat)} {g : Gd} {p : Pr} {e : Env} {Q : Env → Prop}, wpIt K ⟨z, g, p⟩ e Q = gdQ (K := K) z p e Q (gdE e.E g)) ∧
    (∀ {K : Nat → List D → List D → Prop} {z : List (Option Nat)} {p : Pr} {e : Env} {Q : Env → Prop}, gdQ (K := K) z p e Q (some true) = wpPr K p e Q) ∧
    (∀ {K : Nat → List D → List D → Prop} {z : List (Option Nat)} {p : Pr} {e : Env} {Q : Env → Prop}, gdQ (K := K) z p e Q (some false) = Q (e ++ skE e.E z p.np)) ∧
    (∀ {E : Nat → D}, gdE E [] = some true) ∧
    (∀ {E : Nat → D} {n : Nat} {w : Bool} {r : Gd}, gdE E ((n, w) :: r) = gdB w (gdE E r) (E n)) ∧
    (∀ {r : Option Bool}, gdB true r (.b true) = r) ∧
    (∀ {r : Option Bool}, gdB false r (.b false) = r) ∧
    (∀ {r : Option Bool}, gdB true r (.b false) = some false) ∧
    (∀ {r : Option Bool}, gdB false r (.b true) = some false) ∧
    (∀ {K : Nat → List D → List D → Prop} {e : Env} {Q : Env → Prop}, wpPr K .nop e Q = Q e) ∧
    (∀ {K : Nat → List D → List D → Prop} {g : Nat} {xs : List A} {r : Nat} {e : Env} {Q : Env → Prop}, wpPr K (.ca g xs r) e Q = calQ K g (xs.map (ev e.E)) r e Q) ∧
    (∀ {K : Nat → List D → List D → Prop} {f : A} {g : Nat} {xs : List A} {r : Nat} {e : Env} {Q : Env → Prop}, wpPr K (.cd f g xs r) e Q = fnQ g (calQ K g (xs.map (ev e.E)) r e Q) (ev e.E f)) ∧
    (∀ {g : Nat} {P : Prop}, fnQ g P (.f g []) = P) ∧
    (∀ {K : Nat → List D → List D → Prop} {n : Nat} {e : Env} {Q : Env → Prop}, wpPr K (.tk n) e Q = tkQ e Q (e.E n)) ∧
    (∀ {e : Env} {Q : Env → Prop} {d : D}, tkQ e Q (.g [d]) = Q (e ++ [d, .g [.u]])) ∧
    (∀ {K : Nat → List D → List D → Prop} {n k : Nat} {p : List PE} {e : Env} {Q : Env → Prop}, wpPr K (.sp n p k) e Q = twoQ e Q (spD k (e.E n) (p.mapM (PE.ev e.E)))) ∧
    (∀ {K : Nat → List D → List D → Prop} {n : Nat} {e : Env} {Q : Env → Prop}, wpPr K (.sw n) e Q = twoQ e Q (swD (e.E n))) ∧
    (∀ {K : Nat → List D → List D → Prop} {e : Env} {Q : Env → Prop} (n : Nat) (p : List PE) (a : A) (k : Nat), wpPr K (.jn n p a k) e Q = valQ e Q (evP e.E (.jn n p a k))) ∧
    (∀ {e : Env} {Q : Env → Prop} {x y : D}, twoQ e Q (some (x, y)) = Q (e ++ [x, y])) ∧
    (∀ {K : Nat → List D → List D → Prop} {e : Env} {Q : Env → Prop} (s : Sh) (d : D), wpPr K (.cs s d) e Q = valQ e Q (evP e.E (.cs s d))) ∧
    (∀ {K : Nat → List D → List D → Prop} {e : Env} {Q : Env → Prop} (a : A), wpPr K (.cy a) e Q = valQ e Q (evP e.E (.cy a))) ∧
    (∀ {K : Nat → List D → List D → Prop} {e : Env} {Q : Env → Prop} (op : BinOp) (a b : A), wpPr K (.bi op a b) e Q = valQ e Q (evP e.E (.bi op a b))) ∧
    (∀ {K : Nat → List D → List D → Prop} {e : Env} {Q : Env → Prop} (op : BinOp) (a b : A), wpPr K (.bb op a b) e Q = valQ e Q (evP e.E (.bb op a b))) ∧
    (∀ {K : Nat → List D → List D → Prop} {e : Env} {Q : Env → Prop} (op : UnOp) (a : A), wpPr K (.un op a) e Q = valQ e Q (evP e.E (.un op a))) ∧
    (∀ {K : Nat → List D → List D → Prop} {e : Env} {Q : Env → Prop} (a b c : A), wpPr K (.pk a b c) e Q = valQ e Q (evP e.E (.pk a b c))) ∧
    (∀ {K : Nat → List D → List D → Prop} {e : Env} {Q : Env → Prop} (k : IntKind) (a : A), wpPr K (.cv k a) e Q = valQ e Q (evP e.E (.cv k a))) ∧
    (∀ {K : Nat → List D → List D → Prop} {e : Env} {Q : Env → Prop} (a : A) (p : List PE), wpPr K (.ln a p) e Q = valQ e Q (evP e.E (.ln a p))) ∧
    (∀ {K : Nat → List D → List D → Prop} {e : Env} {Q : Env → Prop} (a : A), wpPr K (.sn a) e Q = valQ e Q (evP e.E (.sn a))) ∧
    (∀ {K : Nat → List D → List D → Prop} {e : Env} {Q : Env → Prop} (a i : A), wpPr K (.sx a i) e Q = valQ e Q (evP e.E (.sx a i))) ∧
    (∀ {K : Nat → List D → List D → Prop} {e : Env} {Q : Env → Prop} (a : A) (lo hi : Option A), wpPr K (.ss a lo hi) e Q = valQ e Q (evP e.E (.ss a lo hi))) ∧
    (∀ {K : Nat → List D → List D → Prop} {e : Env} {Q : Env → Prop} (a : A) (p : List PE) (i : A), wpPr K (.ix a p i) e Q = valQ e Q (evP e.E (.ix a p i))) ∧
    (∀ {K : Nat → List D → List D → Prop} {e : Env} {Q : Env → Prop} (n : Nat) (p : List PE) (a : A), wpPr K (.up n p a) e Q = valQ e Q (evP e.E (.up n p a))) ∧
    (∀ {K : Nat → List D → List D → Prop} {e : Env} {Q : Env → Prop} (fz : Bool) (a : A) (lo hi : Option A), wpPr K (.sb fz a lo hi) e Q = valQ e Q (evP e.E (.sb fz a lo hi))) ∧
    (∀ {K : Nat → List D → List D → Prop} {e : Env} {Q : Env → Prop} (fl : Bool) (a b : A), wpPr K (.ap fl a b) e Q = valQ e Q (evP e.E (.ap fl a b))) ∧
    (∀ {K : Nat → List D → List D → Prop} {e : Env} {Q : Env → Prop} (d : D) (n c : A), wpPr K (.mk d n c) e Q = valQ e Q (evP e.E (.mk d n c))) ∧
    (∀ {K : Nat → List D → List D → Prop} {e : Env} {Q : Env → Prop} (s : Sh) (xs : List A), wpPr K (.li s xs) e Q = valQ e Q (evP e.E (.li s xs))) ∧
    (∀ {K : Nat → List D → List D → Prop} {e : Env} {Q : Env → Prop} (a : A), wpPr K (.bs a) e Q = valQ e Q (evP e.E (.bs a))) ∧
    (∀ {K : Nat → List D → List D → Prop} {e : Env} {Q : Env → Prop} (a : A), wpPr K (.sy a) e Q = valQ e Q (evP e.E (.sy a))) ∧
    (∀ {K : Nat → List D → List D → Prop} {e : Env} {Q : Env → Prop} (a b : A), wpPr K (.mx a b) e Q = valQ e Q (evP e.E (.mx a b))) ∧
    (∀ {K : Nat → List D → List D → Prop} {e : Env} {Q : Env → Prop} (a b : A), wpPr K (.mn a b) e Q = valQ e Q (evP e.E (.mn a b))) ∧
    (∀ {K : Nat → List D → List D → Prop} {e : Env} {Q : Env → Prop} (a i : A), wpPr K (.iy a i) e Q = valQ e Q (evP e.E (.iy a i))) ∧
    (∀ {K : Nat → List D → List D → Prop} {e : Env} {Q : Env → Prop} (k : Nat) (xs : List (A × Nat)), wpPr K (.bg k xs) e Q = valQ e Q (evP e.E (.bg k xs))) ∧
    (∀ {K : Nat → List D → List D → Prop} {e : Env} {Q : Env → Prop} (a : A), wpPr K (.bp a) e Q = valQ e Q (evP e.E (.bp a))) ∧
    (∀ {K : Nat → List D → List D → Prop} {e : Env} {Q : Env → Prop} (a : A) (k : Nat), wpPr K (.gp a k) e Q = valQ e Q (evP e.E (.gp a k))) ∧
    (∀ {K : Nat → List D → List D → Prop} {e : Env} {Q : Env → Prop} (w : Bool) (a : A), wpPr K (.nz w a) e Q = valQ e Q (evP e.E (.nz w a))) ∧
    (∀ {K : Nat → List D → List D → Prop} {e : Env} {Q : Env → Prop} (a : A), wpPr K (.nn a) e Q = valQ e Q (evP e.E (.nn a))) ∧
    (∀ {K : Nat → List D → List D → Prop} {e : Env} {Q : Env → Prop} (k : Nat) (a : A), wpPr K (.wl k a) e Q = valQ e Q (evP e.E (.wl k a))) ∧
    (∀ {K : Nat → List D → List D → Prop} {e : Env} {Q : Env → Prop} (n k : Nat) (a : A), wpPr K (.ws n k a) e Q = valQ e Q (evP e.E (.ws n k a))) ∧
    (∀ {K : Nat → List D → List D → Prop} {e : Env} {Q : Env → Prop} (a : A) (p : List PE), wpPr K (.gt a p) e Q = valQ e Q (evP e.E (.gt a p))) ∧
    (∀ {K : Nat → List D → List D → Prop} {e : Env} {Q : Env → Prop} (fl : Bool) (a : A) (k : Nat), wpPr K (.fp fl a k) e Q = valQ e Q (evP e.E (.fp fl a k))) ∧
    (∀ {K : Nat → List D → List D → Prop} {e : Env} {Q : Env → Prop} (n : Nat) (p : List PE) (a : A) (i k : Nat), wpPr K (.uq n p a i k) e Q = valQ e Q (evP e.E (.uq n p a i k))) ∧
    (∀ {K : Nat → List D → List D → Prop} {e : Env} {Q : Env → Prop} (n : Nat), wpPr K (.cb n) e Q = valQ e Q (evP e.E (.cb n))) ∧
    (∀ {E : Nat → D} {n : Nat}, skE E [] n = List.replicate n .u) ∧
    (∀ {E : Nat → D} {m : Nat} {z : List (Option Nat)} {n : Nat}, skE E (some m :: z) (n + 1) = E m :: skE E z n) ∧
    (∀ {E : Nat → D} {z : List (Option Nat)} {n : Nat}, skE E (none :: z) (n + 1) = .u :: skE E z n) ∧
    (∀ {E : Nat → D} {n : Nat}, ev E (.e n) = E n) ∧
    (∀ {E : Nat → D} {d : D}, ev E (.c d) = d) ∧
    (∀ {E : Nat → D} {s : Sh} {d : D}, evP E (.cs s d) = some d) ∧
    (∀ {E : Nat → D} {a : A}, evP E (.cy a) = some (ev E a)) ∧
    (∀ {E : Nat → D} {op : BinOp} {a b : A}, evP E (.bi op a b) = binD op (ev E a) (ev E b)) ∧
    (∀ {E : Nat → D} {op : BinOp} {a b : A}, evP E (.bb op a b) = boolD op (ev E a) (ev E b)) ∧
    (∀ {E : Nat → D} {op : UnOp} {a : A}, evP E (.un op a) = unD op (ev E a)) ∧
    (∀ {E : Nat → D} {c a b : A}, evP E (.pk c a b) = pkD (ev E c) (ev E a) (ev E b)) ∧
    (∀ {a b : D}, pkD (.b true) a b = some a) ∧
    (∀ {a b : D}, pkD (.b false) a b = some b) ∧
    (∀ {p q : Bool}, pkD (.b p) (.b q) (.b false) = some (.b (p && q))) ∧
    (∀ {p q : Bool}, pkD (.b p) (.b true) (.b q) = some (.b (p || q))) ∧
    (∀ {E : Nat → D} {k : IntKind} {a : A}, evP E (.cv k a) = cvD k (ev E a)) ∧
    (∀ {k k' : IntKind} {n : Int}, cvD k (.i k' n) = some (.i k (k.wrap n))) ∧
    (∀ {E : Nat → D} {a : A} {p : List PE}, evP E (.ln a p) = (pathD E p (ev E a)).bind lenD) ∧
    (∀ {E : Nat → D} {d : D}, pathD E [] d = some d) ∧
    (∀ {E : Nat → D} {pe : PE} {d : D}, pathD E [pe] d = (pe.ev E).bind fun i => getP [i] d) ∧
    (∀ {E : Nat → D} {a : A}, evP E (.sn a) = snD (ev E a)) ∧
    (∀ {E : Nat → D} {a i : A}, evP E (.sx a i) = sxD (ev E a) (ev E i)) ∧
    (∀ {E : Nat → D} {a : A} {lo hi : Option A}, evP E (.ss a lo hi) = ssD (ev E a) (lo.map (ev E)) (hi.map (ev E))) ∧
    (∀ {E : Nat → D} {a i : A}, evP E (.ix a [] i) = ixD (ev E a) (ev E i)) ∧
    (∀ {E : Nat → D} {a i : A} {p : List PE}, evP E (.ix a p i) = (pathD E p (ev E a)).bind fun d => ixD d (ev E i)) ∧
    (∀ {E : Nat → D} {a i : A}, evP E (.iy a i) = (ixD (ev E a) (ev E i)).bind flatD) ∧
    (∀ {E : Nat → D} {n : Nat} {p : List PE} {a : A}, evP E (.up n p a) = upD (p.mapM (PE.ev E)) (E n) (ev E a)) ∧
    (∀ {E : Nat → D} {pe : PE}, [pe].mapM (PE.ev E) = (pe.ev E).map ([·])) ∧
    (∀ {E : Nat → D} {pe qe : PE}, [pe, qe].mapM (PE.ev E) = (pe.ev E).bind fun i => (qe.ev E).map fun j => [i, j]) ∧
    (∀ {E : Nat → D} {n : Nat}, PE.ev E (.k n) = some n) ∧
    (∀ {E : Nat → D} {n : Nat}, PE.ev E (.e n) = natD (E n)) ∧
    (∀ {k : IntKind} {z : Int}, (0 ≤ z) → natD (.i k z) = some z.toNat) ∧
    (∀ {E : Nat → D} {fz : Bool} {a : A} {lo hi : Option A}, evP E (.sb fz a lo hi) = subD (ev E a) (lo.map (ev E)) (hi.map (ev E))) ∧
    (∀ {E : Nat → D} {fl : Bool} {a b : A}, evP E (.ap fl a b) = appD fl (ev E a) (ev E b)) ∧
    (∀ {E : Nat → D} {d : D} {n c : A}, evP E (.mk d n c) = mkD d (ev E n) (ev E c)) ∧
    (∀ {E : Nat → D} {s : Sh} {xs : List A}, evP E (.li s xs) = liD (xs.map (ev E))) ∧
    (∀ {E : Nat → D} {a : A}, evP E (.bs a) = bsD (ev E a)) ∧
    (∀ {E : Nat → D} {a : A}, evP E (.sy a) = syD (ev E a)) ∧
    (∀ {E : Nat → D} {a b : A}, evP E (.mx a b) = mxD (ev E a) (ev E b)) ∧
    (∀ {E : Nat → D} {a b : A}, evP E (.mn a b) = mnD (ev E a) (ev E b)) ∧
    (∀ {k : IntKind} {x y : Int}, mxD (.i k x) (.i k y) = some (.i k (max x y))) ∧
    (∀ {k : IntKind} {x y : Int}, mnD (.i k x) (.i k y) = some (.i k (min x y))) ∧
    (∀ (n : Nat), Env.E [] n = .u) ∧
    (∀ (d : D) (e : Env), Env.E (d :: e) 0 = d) ∧
    (∀ (d : D) (e : Env) (n : Nat), Env.E (d :: e) (n + 1) = Env.E e n) ∧
    (∀ {e : Env}, outE [] e = []) ∧
    (∀ {n : Nat} {o : List (Option Nat)} {e : Env}, outE (some n :: o) e = e.E n :: outE o e) ∧
    (∀ {o : List (Option Nat)} {e : Env}, outE (none :: o) e = .u :: outE o e) ∧
    (∀ {k : IntKind} {a b : Int}, binD .add (.i k a) (.i k b) = some (.i k (k.wrap (a + b)))) ∧
    (∀ {k : IntKind} {a b : Int}, binD .sub (.i k a) (.i k b) = some (.i k (k.wrap (a - b)))) ∧
    (∀ {k : IntKind} {a b : Int}, binD .mul (.i k a) (.i k b) = some (.i k (k.wrap (a * b)))) ∧
    (∀ {k : IntKind} {a b : Int}, (b ≠ 0) → binD .quo (.i k a) (.i k b) = some (.i k (k.wrap (a.tdiv b)))) ∧
    (∀ {k : IntKind} {a b : Int}, (b ≠ 0) → binD .rem (.i k a) (.i k b) = some (.i k (a.tmod b))) ∧
    (∀ {k : IntKind} {a b : Int}, binD .eql (.i k a) (.i k b) = some (.b (decide (a = b)))) ∧
    (∀ {k : IntKind} {a b : Int}, binD .neq (.i k a) (.i k b) = some (.b (!decide (a = b)))) ∧
    (∀ {k : IntKind} {a b : Int}, binD .lss (.i k a) (.i k b) = some (.b (decide (a < b)))) ∧
    (∀ {k : IntKind} {a b : Int}, binD .leq (.i k a) (.i k b) = some (.b (decide (a ≤ b)))) ∧
    (∀ {k : IntKind} {a b : Int}, binD .gtr (.i k a) (.i k b) = some (.b (decide (b < a)))) ∧
    (∀ {k : IntKind} {a b : Int}, binD .geq (.i k a) (.i k b) = some (.b (decide (b ≤ a)))) ∧
    (∀ {p : Bool}, unD .not (.b p) = some (.b (!p))) ∧
    (∀ {k : IntKind} {a : Int}, unD .neg (.i k a) = some (.i k (k.wrap (0 - a)))) ∧
    (∀ {p q : Bool}, boolD .eql (.b p) (.b q) = some (.b (p == q))) ∧
    (∀ {p q : Bool}, boolD .neq (.b p) (.b q) = some (.b (!(p == q)))) ∧
    (∀ {x y : List Nat}, binD .eql (.s x) (.s y) = some (.b (x == y))) ∧
    (∀ {x y : List Nat}, binD .neq (.s x) (.s y) = some (.b (!(x == y)))) ∧
    (∀ {x y : List Nat}, (x.length + y.length ≤ 1099511627776) → binD .add (.s x) (.s y) = some (.s (x ++ y))) ∧
    (∀ {x : Int}, (-9223372036854775808 ≤ x ∧ x ≤ 9223372036854775807) → IntKind.i64.wrap x = x) ∧
    (∀ {x : Int}, (0 ≤ x ∧ x ≤ 255) → IntKind.u8.wrap x = x) ∧
    (∀ {E : Nat → D} {k : Nat} {xs : List (A × Nat)}, evP E (.bg k xs) = bgD k (xs.map fun x => (ev E x.1, x.2))) ∧
    (∀ {k : Nat} {l : List (D × Nat)}, bgD k l = bg2 k true l []) ∧
    (∀ {k : Nat} {r : List D}, bg2 k true [] r = some (.g r)) ∧
    (∀ {k : Nat} {x : D × Nat} {l : List (D × Nat)} {r : List D}, bg2 k true (x :: l) r = bg2 k (putB k x) l (r ++ [x.1])) ∧
    (∀ {d : D} {i : Nat}, putB 0 (d, i) = d.one) ∧
    (∀ {k i : Nat} {q : IntKind} {n : Int}, putB k (.i q n, i) = true) ∧
    (∀ {k i : Nat} {x : List Nat}, putB k (.s x, i) = true) ∧
    (∀ {k i : Nat} {x : Bool}, putB k (.b x, i) = true) ∧
    (∀ {E : Nat → D} {a : A}, evP E (.bp a) = bpD (ev E a)) ∧
    (∀ {xs : List D}, bpD (.g xs) = some (.p xs)) ∧
    (lenK [] 0 = true) ∧
    (∀ {x : D} {xs : List D} {k : Nat}, lenK (x :: xs) (k + 1) = lenK xs k) ∧
    (allO [] = true) ∧
    (∀ {x : D} {xs : List D}, allO (x :: xs) = (x.one && allO xs)) ∧
    (∀ {α : Type} {r : α}, okQ r true = some r) ∧
    (∀ {E : Nat → D} {a : A} {k : Nat}, evP E (.gp a k) = gpD k (ev E a)) ∧
    (∀ {xs : List D} {k : Nat}, gpD k (.p xs) = okQ (.g xs) (lenK xs k)) ∧
    (∀ {E : Nat → D} {w : Bool} {a : A}, evP E (.nz w a) = (nzD (ev E a)).map fun x => .b (x == w)) ∧
    (nzD .z = some true) ∧
    (∀ {xs : List D}, nzD (.p xs) = some false) ∧
    (∀ {E : Nat → D} {a : A}, evP E (.nn a) = nnD (ev E a)) ∧
    (∀ {xs : List D}, nnD (.p xs) = some (.p xs)) ∧
    (∀ {E : Nat → D} {k : Nat} {a : A}, evP E (.wl k a) = wlD k (ev E a)) ∧
    (∀ {xs : List D} {k : Nat}, wlD k (.g xs) = okQ (.g xs) (lenK xs k && allO xs)) ∧
    (∀ {E : Nat → D} {n k : Nat} {a : A}, evP E (.ws n k a) = wsD (E n) k (ev E a)) ∧
    (∀ {ys xs : List D} {k : Nat}, wsD (.g ys) k (.g xs) = okQ (.g xs) (lenK ys k && (lenK xs k && allO xs))) ∧
    (∀ {E : Nat → D} {a : A} {p : List PE}, evP E (.gt a p) = (pathD E p (ev E a)).bind known) ∧
    (∀ {i : Nat} {xs : List D}, getP [i] (.g xs) = xs[i]?) ∧
    (∀ {q : IntKind} {n : Int}, known (.i q n) = some (.i q n)) ∧
    (∀ {x : Bool}, known (.b x) = some (.b x)) ∧
    (∀ {x : List Nat}, known (.s x) = some (.s x)) ∧
    (∀ {x : List D}, known (.l x) = some (.l x)) ∧
    (∀ {x : List D}, known (.p x) = some (.p x)) ∧
    (known .z = some .z) ∧
    (∀ {E : Nat → D} {fl : Bool} {a : A} {k : Nat}, evP E (.fp fl a k) = fpE fl k (ev E a)) ∧
    (∀ {fl : Bool} {k : Nat} {xs : List D}, fpE fl k (.p xs) = xs[k]?.bind (fpK fl)) ∧
    (∀ {d : D}, fpK false d = known d) ∧
    (∀ {q : IntKind} {n : Int}, fpK true (.i q n) = some (.i q n)) ∧
    (∀ {x : List Nat}, fpK true (.s x) = some (.s x)) ∧
    (∀ {x : Bool}, fpK true (.b x) = some (.b x)) ∧
    (∀ {i : Nat} {xs : List D} {x : D}, setP [i] (.g xs) x = xs[i]?.map fun _ => .g (xs.set i x)) ∧
    (∀ {E : Nat → D} {n : Nat} {p : List PE} {a : A} {i k : Nat}, evP E (.uq n p a i k) = uqD (p.mapM (PE.ev E)) (E n) (ev E a) i k) ∧
    (∀ {E : Nat → D} {n : Nat}, evP E (.cb n) = cbD (E n)) ∧
    (∀ {x : D} {xs : List D}, cbD (.g (x :: xs)) = some .u) ∧
    (∀ {E : Nat → D} {n k : Nat} {p : List PE} {a : A}, evP E (.jn n p a k) = jnD (p.mapM (PE.ev E)) (E n) (ev E a) k) ∧
    (∀ {xs : List D}, swD (.g xs) = some (.g xs, .g (List.replicate xs.length .u))) ∧
    (∀ {k i : Nat} {xs : List D}, spD k (.g xs) (some [i]) = xs[i]?.bind fun x => if depB k x = true then some (x, .g (xs.set i .u)) else none) ∧
    (∀ {xs : List D}, (D.l xs).one = true) ∧
    (∀ {xs : List D}, (D.p xs).one = true) ∧
    (D.z.one = true) ∧
    (∀ {x : D} {xs : List D}, (x :: xs)[0]? = some x) ∧
    (∀ {x : D} {xs : List D} {n : Nat}, (x :: xs)[n + 1]? = xs[n]?) ∧
    (∀ {zs : List Int}, lenD (LI zs) = some (.n zs.length)) ∧
    (∀ {zs : List Int} {i : Int} {k : IntKind}, (0 ≤ i ∧ i < zs.length) → ixD (LI zs) (.i k i) = some (.n (atI zs i))) ∧
    (∀ {x : Int} {k : IntKind}, flatD (.i k x) = some (.i k x)) ∧
    (∀ {zs : List Int} {i x : Int}, (0 ≤ i ∧ i < zs.length) → setP [i.toNat] (LI zs) (.n x) = some (LI (seI zs i x))) ∧
    (∀ {zs : List Int} {i j : Int}, (0 ≤ i ∧ i ≤ j ∧ j ≤ zs.length) → subD (LI zs) (some (.n i)) (some (.n j)) = some (LI (sub zs i j))) ∧
    (∀ {zs : List Int} {j : Int}, (0 ≤ j ∧ j ≤ zs.length) → subD (LI zs) none (some (.n j)) = some (LI (sub zs 0 j))) ∧
    (∀ {zs : List Int} {i : Int}, (0 ≤ i ∧ i ≤ zs.length) → subD (LI zs) (some (.n i)) none = some (LI (sub zs i zs.length))) ∧
    (∀ {zs ys : List Int} {fl : Bool}, (zs.length + ys.length ≤ 1099511627776) → appD fl (LI zs) (LI ys) = some (LI (zs ++ ys))) ∧
    (∀ {x : Int} {n m : Int}, (0 ≤ n ∧ n ≤ m ∧ m ≤ 1099511627776) → mkD (.n x) (.n n) (.n m) = some (LI (rep n x))) ∧
    (liD [] = some (.l [])) ∧
    (∀ {a : Int}, liD [.n a] = some (LI [a])) ∧
    (∀ {a b : Int}, liD [.n a, .n b] = some (LI [a, b])) ∧
    (∀ {a b c : Int}, liD [.n a, .n b, .n c] = some (LI [a, b, c])) ∧
    (∀ {x : Int} {k : IntKind}, (D.i k x).one = true) ∧
    (∀ {zs : List Int}, (LI zs).one = true) ∧
    (∀ {s : List Nat}, snD (.s s) = some (.n s.length)) ∧
    (∀ {s : List Nat} {i : Int} {k : IntKind}, (0 ≤ i ∧ i < s.length) → sxD (.s s) (.i k i) = some (.y (atB s i))) ∧
    (∀ {s : List Nat} {i j : Int}, (0 ≤ i ∧ i ≤ j ∧ j ≤ s.length) → ssD (.s s) (some (.n i)) (some (.n j)) = some (.s (sub s i j))) ∧
    (∀ {s : List Nat} {j : Int}, (0 ≤ j ∧ j ≤ s.length) → ssD (.s s) none (some (.n j)) = some (.s (sub s 0 j))) ∧
    (∀ {s : List Nat} {i : Int}, (0 ≤ i ∧ i ≤ s.length) → ssD (.s s) (some (.n i)) none = some (.s (sub s i s.length))) ∧
    (∀ {ss : List (List Nat)}, lenD (LS ss) = some (.n ss.length)) ∧
    (∀ {ss : List (List Nat)} {i : Int} {k : IntKind}, (0 ≤ i ∧ i < ss.length) → ixD (LS ss) (.i k i) = some (.s (atS ss i))) ∧
    (∀ {s : List Nat}, flatD (.s s) = some (.s s)) ∧
    (∀ {s : List Nat} {ss : List (List Nat)} {i : Int}, (0 ≤ i ∧ i < ss.length) → setP [i.toNat] (LS ss) (.s s) = some (LS (seS ss i s))) ∧
    (∀ {ss : List (List Nat)} {i j : Int}, (0 ≤ i ∧ i ≤ j ∧ j ≤ ss.length) → subD (LS ss) (some (.n i)) (some (.n j)) = some (LS (sub ss i j))) ∧
    (∀ {ss ts : List (List Nat)} {fl : Bool}, (ss.length + ts.length ≤ 1099511627776) → appD fl (LS ss) (LS ts) = some (LS (ss ++ ts))) ∧
    (∀ {s : List Nat} {n m : Int}, (0 ≤ n ∧ n ≤ m ∧ m ≤ 1099511627776) → mkD (.s s) (.n n) (.n m) = some (LS (rep n s))) ∧
    (∀ {a : List Nat}, liD [.s a] = some (LS [a])) ∧
    (∀ {s : List Nat}, (D.s s).one = true) ∧
    (∀ {bs : List Nat}, lenD (LB bs) = some (.n bs.length)) ∧
    (∀ {bs : List Nat} {i : Int} {k : IntKind}, (0 ≤ i ∧ i < bs.length) → ixD (LB bs) (.i k i) = some (.y (atB bs i))) ∧
    (∀ {bs cs : List Nat} {fl : Bool}, (bs.length + cs.length ≤ 1099511627776) → appD fl (LB bs) (LB cs) = some (LB (bs ++ cs))) ∧
    (∀ {c : Nat}, liD [.y c] = some (LB [c])) ∧
    (∀ {bs : List Nat}, (bs.length ≤ 1099511627776) → syD (.s bs) = some (LB bs)) ∧
    (∀ {bs : List Bool}, lenD (LT bs) = some (.n bs.length)) ∧
    (∀ {bs : List Bool} {i : Int} {k : IntKind}, (0 ≤ i ∧ i < bs.length) → ixD (LT bs) (.i k i) = some (.b (atT bs i))) ∧
    (∀ {c : Bool}, flatD (.b c) = some (.b c)) ∧
    (∀ {bs : List Bool} {i : Int} {c : Bool}, (0 ≤ i ∧ i < bs.length) → setP [i.toNat] (LT bs) (.b c) = some (LT (seT bs i c))) ∧
    (∀ {c : Bool} {n m : Int}, (0 ≤ n ∧ n ≤ m ∧ m ≤ 1099511627776) → mkD (.b c) (.n n) (.n m) = some (LT (rep n c))) ∧
    (∀ {c : Bool}, (D.b c).one = true) ∧
    (∀ {rs : List (List Int)}, lenD (LL rs) = some (.n rs.length)) ∧
    (∀ {rs : List (List Int)} {i : Int} {k : IntKind}, (0 ≤ i ∧ i < rs.length) → ixD (LL rs) (.i k i) = some (LI (atL rs i))) ∧
    (∀ {rs : List (List Int)} {i : Int}, (0 ≤ i ∧ i < rs.length) → getP [i.toNat] (LL rs) = some (LI (atL rs i))) ∧
    (∀ {rs : List (List Int)} {r : List Int} {i : Int}, (0 ≤ i ∧ i < rs.length) → setP [i.toNat] (LL rs) (LI r) = some (LL (seL rs i r))) ∧
    (∀ {rs : List (List Int)} {i j x : Int}, (0 ≤ i ∧ i < rs.length ∧ 0 ≤ j ∧ j < (atL rs i).length) → setP [i.toNat, j.toNat] (LL rs) (.n x) = some (LL (seL rs i (seI (atL rs i) j x)))) ∧
    (∀ {rs qs : List (List Int)} {fl : Bool}, (rs.length + qs.length ≤ 1099511627776 ∧ fl = false) → appD fl (LL rs) (LL qs) = some (LL (rs ++ qs))) ∧
    (∀ {rs : List (List Int)} {i j : Int}, (0 ≤ i ∧ i ≤ j ∧ j ≤ rs.length) → subD (LL rs) (some (.n i)) (some (.n j)) = some (LL (sub rs i j))) ∧
    (∀ {rs : List (List Int)} {i : Int}, (0 ≤ i ∧ i ≤ rs.length) → subD (LL rs) (some (.n i)) none = some (LL (sub rs i rs.length))) ∧
    (∀ {r : List Int}, liD [LI r] = some (LL [r])) ∧
    (∀ {is : List Nat} {d : D} {k : IntKind} {n : Int}, upD (some is) d (.i k n) = setP is d (.i k n)) ∧
    (∀ {is : List Nat} {d : D} {u : List Nat}, upD (some is) d (.s u) = setP is d (.s u)) ∧
    (∀ {is : List Nat} {d : D} {u : Bool}, upD (some is) d (.b u) = setP is d (.b u)) ∧
    (∀ {is : List Nat} {d : D} {u : List Int}, upD (some is) d (LI u) = setP is d (LI u)) ∧
    (∀ {is : List Nat} {d : D} {u : List D}, upD (some is) d (.l u) = setP is d (.l u)) ∧
    (∀ {is : List Nat} {d : D} {u : List (List Nat)}, upD (some is) d (LS u) = setP is d (LS u)) ∧
    (∀ {is : List Nat} {d : D} {u : List (List Int)}, upD (some is) d (LL u) = setP is d (LL u)) ∧
    (∀ {x : List Int}, depB 1 (LI x) = true) ∧
    (∀ {x : List (List Nat)}, depB 1 (LS x) = true) ∧
    (∀ {x : List (List Int)}, depB 2 (LL x) = true) ∧
    (∀ {is : Option (List Nat)} {d : D} {x : List Int}, jnD is d (LI x) 1 = is.bind fun is => setP is d (LI x)) ∧
    (∀ {is : Option (List Nat)} {d : D} {x : List (List Nat)}, jnD is d (LS x) 1 = is.bind fun is => setP is d (LS x)) ∧
    (∀ {is : Option (List Nat)} {d : D} {x : List (List Int)}, jnD is d (LL x) 2 = is.bind fun is => setP is d (LL x)) ∧
    (∀ {rs : List (List Int)} {i : Int}, (0 ≤ i ∧ i < rs.length) → spD 1 (LL rs) (some [i.toNat]) = some (LI (atL rs i), holL rs i)) ∧
    (∀ {rs : List (List Int)} {i : Int} {x : List Int}, (0 ≤ i ∧ i < rs.length) → setP [i.toNat] (holL rs i) (LI x) = some (LL (seL rs i x))) ∧
    (∀ {zs : List Int} {i x : Int}, (seI zs i x).length = zs.length) ∧
    (∀ {i : Int} {ss : List (List Nat)} {s : List Nat}, (seS ss i s).length = ss.length) ∧
    (∀ {i : Int} {ss : List Bool} {s : Bool}, (seT ss i s).length = ss.length) ∧
    (∀ {i : Int} {ss : List (List Int)} {s : List Int}, (seL ss i s).length = ss.length) ∧
    (∀ {i j : Int} {α : Type} {xs : List α}, (sub xs i j).length = min j.toNat xs.length - i.toNat) ∧
    (∀ {α : Type} {n : Int} {y : α}, (rep n y).length = n.toNat) ∧
    (∀ {x : List Nat}, (x == x) = true) ∧
    (∀ {p : Bool}, (p == p) = true) ∧
    (∀ {a b : Int}, (0 ≤ a) → a.tmod b = a % b) ∧
    (∀ {a b : Int}, (0 ≤ a) → a.tdiv b = a / b) ∧
    (∀ {x : Int}, (0 ≤ x) → liD [.i .u8 x] = some (LB [x.toNat])) ∧
    (∀ {x : Nat}, (x < 256) → bsD (LB [x]) = some (.s [x])) ∧
    (∀ {α : Type} {a : α} {as bs : List α}, (a :: as) ++ bs = a :: (as ++ bs)) ∧
    (∀ {α : Type} {as : List α}, [] ++ as = as) ∧
    (∀ {α : Type} {as : List α}, as ++ [] = as) ∧
    (∀ {α β : Type} {f : α → β} {a : α} {l : List α}, List.map f (a :: l) = f a :: List.map f l) ∧
    (∀ {α β : Type} {f : α → β}, List.map f [] = []) ∧
    (∀ {α : Type} {a b : α} {l : List α}, (a :: l).set 0 b = b :: l) ∧
    (∀ {α : Type} {a b : α} {l : List α} {n : Nat}, (a :: l).set (n + 1) b = a :: l.set n b) ∧
    (∀ {α : Type} {a : α} {n : Nat}, List.replicate (n + 1) a = a :: List.replicate n a) ∧
    (∀ {α : Type} {a : α}, List.replicate 0 a = []) ∧
    (∀ {α β : Type} {f : α → Option β} {a : α}, (some a).bind f = f a) ∧
    (∀ {α β : Type} {f : α → β} {a : α}, (some a).map f = some (f a)) ∧
    (∀ {α β : Type} {f : α → β}, (none : Option α).map f = none) ∧
    ((!true) = false) ∧
    ((!false) = true) ∧
    (∀ {b : Bool}, (!!b) = b) ∧
    (∀ {α : Sort 1} {a b : α}, (if True then a else b) = a) ∧
    (∀ {α : Sort 1} {a b : α}, (if False then a else b) = b) ∧
    (∀ {b : Bool}, (b && true) = b) ∧
    (∀ {b : Bool}, (true && b) = b) ∧
    (∀ {b : Bool}, (b && false) = false) ∧
    (∀ {b : Bool}, (false && b) = false) ∧
    (∀ {b : Bool}, (b || true) = true) ∧
    (∀ {b : Bool}, (true || b) = true) ∧
    (∀ {b : Bool}, (b || false) = b) ∧
    (∀ {b : Bool}, (false || b) = b) ∧
    (∀ [Decidable True], decide True = true) ∧
    (∀ [Decidable False], decide False = false) ∧
    (∀ {i : Nat}, ((i + 1 : Nat) : Int) = (i : Int) + 1) ∧
    (((0 : Nat) : Int) = 0) ∧
    (∀ {p : Prop}, (p ∧
    True) = p) ∧
    (∀ {p : Prop}, (True ∧
    p) = p) ∧
    (Pr.nop.np = 0) ∧
    (∀ {g : Nat} {xs : List A} {r : Nat}, (Pr.ca g xs r).np = r) ∧
    (∀ {s : Sh} {d : D}, (Pr.cs s d).np = 1) ∧
    (∀ {a : A}, (Pr.cy a).np = 1) ∧
    (∀ {op : BinOp} {a b : A}, (Pr.bi op a b).np = 1) ∧
    (∀ {op : BinOp} {a b : A}, (Pr.bb op a b).np = 1) ∧
    (∀ {op : UnOp} {a : A}, (Pr.un op a).np = 1) ∧
    (∀ {a b c : A}, (Pr.pk a b c).np = 1) ∧
    (∀ {k : IntKind} {a : A}, (Pr.cv k a).np = 1) ∧
    (∀ {a : A} {p : List PE}, (Pr.ln a p).np = 1) ∧
    (∀ {a : A}, (Pr.sn a).np = 1) ∧
    (∀ {a b : A}, (Pr.sx a b).np = 1) ∧
    (∀ {a : A} {lo hi : Option A}, (Pr.ss a lo hi).np = 1) ∧
    (∀ {a : A} {p : List PE} {b : A}, (Pr.ix a p b).np = 1) ∧
    (∀ {n : Nat} {p : List PE} {a : A}, (Pr.up n p a).np = 1) ∧
    (∀ {fz : Bool} {a : A} {lo hi : Option A}, (Pr.sb fz a lo hi).np = 1) ∧
    (∀ {fl : Bool} {a b : A}, (Pr.ap fl a b).np = 1) ∧
    (∀ {d : D} {a b : A}, (Pr.mk d a b).np = 1) ∧
    (∀ {s : Sh} {xs : List A}, (Pr.li s xs).np = 1) ∧
    (∀ {a : A}, (Pr.bs a).np = 1) ∧
    (∀ {a : A}, (Pr.sy a).np = 1) ∧
    (∀ {a b : A}, (Pr.mx a b).np = 1) ∧
    (∀ {a b : A}, (Pr.mn a b).np = 1) ∧
    (∀ {a b : A}, (Pr.iy a b).np = 1) ∧
    (∀ {k : Nat} {xs : List (A × Nat)}, (Pr.bg k xs).np = 1) ∧
    (∀ {a : A}, (Pr.bp a).np = 1) ∧
    (∀ {a : A} {k : Nat}, (Pr.gp a k).np = 1) ∧
    (∀ {w : Bool} {a : A}, (Pr.nz w a).np = 1) ∧
    (∀ {a : A}, (Pr.nn a).np = 1) ∧
    (∀ {k : Nat} {a : A}, (Pr.wl k a).np = 1) ∧
    (∀ {n k : Nat} {a : A}, (Pr.ws n k a).np = 1) ∧
    (∀ {a : A} {p : List PE}, (Pr.gt a p).np = 1) ∧
    (∀ {fl : Bool} {a : A} {k : Nat}, (Pr.fp fl a k).np = 1) ∧
    (∀ {n : Nat} {p : List PE} {a : A} {i k : Nat}, (Pr.uq n p a i k).np = 1) ∧
    (∀ {n : Nat}, (Pr.cb n).np = 1) ∧
    (∀ {n : Nat} {p : List PE} {a : A} {k : Nat}, (Pr.jn n p a k).np = 1) ∧
    (∀ {n : Nat}, (Pr.tk n).np = 2) ∧
    (∀ {n k : Nat} {p : List PE}, (Pr.sp n p k).np = 2) ∧
    (∀ {n : Nat}, (Pr.sw n).np = 2) :=
  ⟨@wp_seq, @wp_block, @wp_skip, @wp_exit, @wp_ret, @wp_reg, @wp_cond, @seqQ_n, @seqQ_ex, @seqQ_r, @blkQ_n, @blkQ_ex, @blkQ_r, @regQ_mk, @itsQ_mk, @valQ_some, @cndQ_t, @cndQ_f, @lpQ_n, @lpQ_ex, @lpQ_r, @endQ_n, @endQ_r, @exQ_n, @exQ_r, @wp_its_nil, @wp_its_cons, @wp_it, @gdQ_t, @gdQ_f, @gdE_nil, @gdE_cons, @gdB_tt, @gdB_ff, @gdB_tf, @gdB_ft, @wp_pr_nop, @wp_pr_ca, @wp_pr_cd, @fnQ_eq, @wp_pr_tk, @tkQ_g, @wp_pr_sp, @wp_pr_sw, @wp_pr_jn, @twoQ_s, @wp_pr_cs, @wp_pr_cy, @wp_pr_bi, @wp_pr_bb, @wp_pr_un, @wp_pr_pk, @wp_pr_cv, @wp_pr_ln, @wp_pr_sn, @wp_pr_sx, @wp_pr_ss, @wp_pr_ix, @wp_pr_up, @wp_pr_sb, @wp_pr_ap, @wp_pr_mk, @wp_pr_li, @wp_pr_bs, @wp_pr_sy, @wp_pr_mx, @wp_pr_mn, @wp_pr_iy, @wp_pr_bg, @wp_pr_bp, @wp_pr_gp, @wp_pr_nz, @wp_pr_nn, @wp_pr_wl, @wp_pr_ws, @wp_pr_gt, @wp_pr_fp, @wp_pr_uq, @wp_pr_cb, @skE_z, @skE_s, @skE_n, @ev_e, @ev_c, @evP_cs, @evP_cy, @evP_bin, @evP_bbo, @evP_uno, @evP_pk, @pkD_t, @pkD_f, @pkD_ff, @pkD_tt, @evP_cv, @cvD_i, @evP_ln, @pathD_nil, @pathD_one, @evP_sn, @evP_sx, @evP_ss, @evP_ix, @evP_ixp, @evP_iy, @evP_up, @pes_one, @pes_two, @pe_k, @pe_e, @natD_i, @evP_sb, @evP_ap, @evP_mk, @evP_li, @evP_bs, @evP_sy, @evP_mx, @evP_mn, @mxD_n, @mnD_n, @E_nil, @E_zero, @E_succ, @outE_nil, @outE_some, @outE_none, @bin_add, @bin_sub, @bin_mul, @bin_quo, @bin_rem, @bin_eql, @bin_neq, @bin_lss, @bin_leq, @bin_gtr, @bin_geq, @un_not, @un_neg, @boolD_eql, @boolD_neq, @str_eql, @str_neq, @str_add, @wrap_i64, @wrap_u8, @evP_bg, @bgD_eq, @bg2_nil, @bg2_cons, @putB_0, @putB_i, @putB_s, @putB_b, @evP_bp, @bpD_g, @lenK_nil, @lenK_cons, @allO_nil, @allO_cons, @okQ_t, @evP_gp, @gpD_p, @evP_nz, @nzD_z, @nzD_p, @evP_nn, @nnD_p, @evP_wl, @wlD_g, @evP_ws, @wsD_g, @evP_gt, @getP_g, @known_i, @known_b, @known_s, @known_l, @known_p, @known_z, @evP_fp, @fpE_p, @fpK_f, @fpK_ti, @fpK_ts, @fpK_tb, @setP_g, @evP_uq, @evP_cb, @cbD_g, @evP_jn, @swD_g, @spD_g, @one_l, @one_p, @one_z, @ixL_0, @ixL_s, @LI_len, @LI_ix, @flat_i, @LI_set, @LI_sub, @LI_to, @LI_from, @LI_app, @LI_mk, @li_nil, @li_1, @li_2, @li_3, @one_i, @LI_one, @S_len, @S_ix, @S_sub, @S_to, @S_from, @LS_len, @LS_ix, @flat_s, @LS_set, @LS_sub, @LS_app, @LS_mk, @ls_1, @one_s, @LB_len, @LB_ix, @LB_app, @lb_1, @LB_sy, @LT_len, @LT_ix, @flat_b, @LT_set, @LT_mk, @one_b, @LL_len, @LL_ix, @LL_get, @LL_set, @LL_set2, @LL_app, @LL_sub, @LL_from, @ll_1, @up_i, @up_s, @up_b, @up_l, @up_dl, @up_ls, @up_lr, @dep_i1, @dep_s1, @dep_r2, @jn_i, @jn_s, @jn_r, @sp_ll, @jn_ll, @seI_len, @seS_len, @seT_len, @seL_len, @sub_len, @rep_len, @beq_s, @beq_b, @tmod_p, @tdiv_p, @lb_1i, @LB_bs1, List.cons_append, List.nil_append _, List.append_nil _, List.map_cons, List.map_nil, List.set_cons_zero, List.set_cons_succ, List.replicate_succ, List.replicate_zero, Option.bind_some _ _, Option.map_some _ _, Option.map_none _, rfl, rfl, Bool.not_not _, if_pos trivial, if_neg id, Bool.and_true _, Bool.true_and _, Bool.and_false _, Bool.false_and _, Bool.or_true _, Bool.true_or _, Bool.or_false _, Bool.false_or _, decide_eq_true trivial, decide_eq_false id, Int.natCast_succ _, rfl, and_true _, true_and _, rfl, rfl, rfl, rfl, rfl, rfl, rfl, rfl, rfl, rfl, rfl, rfl, rfl, rfl, rfl, rfl, rfl, rfl, rfl, rfl, rfl, rfl, rfl, rfl, rfl, rfl, rfl, rfl, rfl, rfl, rfl, rfl, rfl, rfl, rfl, rfl, rfl, rfl, rfl⟩

/-- The like, and comparisons that are decided. -/
theorem vcd :
    (∀ {K : Nat → List D → List D → Prop} {a b : S} {Q : X → Env → Prop} {e : Env}, wpS K (.seq a b) Q e = wpS K a (seqQ K b Q) e) ∧
    (∀ {K : Nat → List D → List D → Prop} {id : Nat} {b : S} {Q : X → Env → Prop} {e : Env}, wpS K (.block id b) Q e = wpS K b (blkQ id Q) e) ∧
    (∀ {K : Nat → List D → List D → Prop} {Q : X → Env → Prop} {e : Env}, wpS K .skip Q e = Q .n e) ∧
    (∀ {K : Nat → List D → List D → Prop} {id : Nat} {Q : X → Env → Prop} {e : Env}, wpS K (.exit id) Q e = Q (.ex id) e) ∧
    (∀ {K : Nat → List D → List D → Prop} {Q : X → Env → Prop} {e : Env}, wpS K .ret Q e = Q .r e) ∧
    (∀ {K : Nat → List D → List D → Prop} {its : List It} {out : List (Option Nat)} {Q : X → Env → Prop} {e : Env}, wpS K (.reg its out) Q e = wpIts K its e (regQ out Q)) ∧
    (∀ {K : Nat → List D → List D → Prop} {n : Nat} {x y : S} {Q : X → Env → Prop} {e : Env}, wpS K (.cond n x y) Q e = cndQ K x y Q (e.set n .u) (e.E n)) ∧
    (∀ {K : Nat → List D → List D → Prop} {b : S} {Q : X → Env → Prop} {e : Env}, seqQ K b Q .n e = wpS K b Q e) ∧
    (∀ {K : Nat → List D → List D → Prop} {b : S} {Q : X → Env → Prop} {e : Env} {j : Nat}, seqQ K b Q (.ex j) e = Q (.ex j) e) ∧
    (∀ {K : Nat → List D → List D → Prop} {b : S} {Q : X → Env → Prop} {e : Env}, seqQ K b Q .r e = Q .r e) ∧
    (∀ {id : Nat} {Q : X → Env → Prop} {e : Env}, blkQ id Q .n e = Q .n e) ∧
    (∀ {id : Nat} {Q : X → Env → Prop} {e : Env} {j : Nat}, blkQ id Q (.ex j) e = if j = id then Q .n e else Q (.ex j) e) ∧
    (∀ {id : Nat} {Q : X → Env → Prop} {e : Env}, blkQ id Q .r e = Q .r e) ∧
    (∀ {out : List (Option Nat)} {Q : X → Env → Prop} {e : Env}, regQ out Q e = Q .n (outE out e)) ∧
    (∀ {K : Nat → List D → List D → Prop} {r : List It} {Q : Env → Prop} {e : Env}, itsQ K r Q e = wpIts K r e Q) ∧
    (∀ {e : Env} {Q : Env → Prop} {d : D}, valQ e Q (some d) = Q (e ++ [d])) ∧
    (∀ {K : Nat → List D → List D → Prop} {x y : S} {Q : X → Env → Prop} {e : Env}, cndQ K x y Q e (.b true) = wpS K x Q e) ∧
    (∀ {K : Nat → List D → List D → Prop} {x y : S} {Q : X → Env → Prop} {e : Env}, cndQ K x y Q e (.b false) = wpS K y Q e) ∧
    (∀ {R : Env → Prop} {Q : X → Env → Prop} {e : Env}, lpQ R Q .n e = R e) ∧
    (∀ {R : Env → Prop} {Q : X → Env → Prop} {e : Env} {j : Nat}, lpQ R Q (.ex j) e = Q (.ex j) e) ∧
    (∀ {R : Env → Prop} {Q : X → Env → Prop} {e : Env}, lpQ R Q .r e = Q .r e) ∧
    (∀ {res : List Nat} {rs : List D} {e : Env}, endQ res rs .n e = (rs = res.map e.E)) ∧
    (∀ {res : List Nat} {rs : List D} {e : Env}, endQ res rs .r e = (rs = res.map e.E)) ∧
    (∀ {res : List Nat} {P : List D → Prop} {e : Env}, exQ res P .n e = P (res.map e.E)) ∧
    (∀ {res : List Nat} {P : List D → Prop} {e : Env}, exQ res P .r e = P (res.map e.E)) ∧
    (∀ {K : Nat → List D → List D → Prop} {e : Env} {Q : Env → Prop}, wpIts K [] e Q = Q e) ∧
    (∀ {K : Nat → List D → List D → Prop} {it : It} {r : List It} {e : Env} {Q : Env → Prop}, wpIts K (it :: r) e Q = wpIt K it e (itsQ K r Q)) ∧
    (∀ {K : Nat → List D → List D → Prop} {z : List (Option Nat)} {g : Gd} {p : Pr} {e : Env} {Q : Env → Prop}, wpIt K ⟨z, g, p⟩ e Q = gdQ (K := K) z p e Q (gdE e.E g)) ∧
    (∀ {K : Nat → List D → List D → Prop} {z : List (Option Nat)} {p : Pr} {e : Env} {Q : Env → Prop}, gdQ (K := K) z p e Q (some true) = wpPr K p e Q) ∧
    (∀ {K : Nat → List D → List D → Prop} {z : List (Option Nat)} {p : Pr} {e : Env} {Q : Env → Prop}, gdQ (K := K) z p e Q (some false) = Q (e ++ skE e.E z p.np)) ∧
    (∀ {E : Nat → D}, gdE E [] = some true) ∧
    (∀ {E : Nat → D} {n : Nat} {w : Bool} {r : Gd}, gdE E ((n, w) :: r) = gdB w (gdE E r) (E n)) ∧
    (∀ {r : Option Bool}, gdB true r (.b true) = r) ∧
    (∀ {r : Option Bool}, gdB false r (.b false) = r) ∧
    (∀ {r : Option Bool}, gdB true r (.b false) = some false) ∧
    (∀ {r : Option Bool}, gdB false r (.b true) = some false) ∧
    (∀ {K : Nat → List D → List D → Prop} {e : Env} {Q : Env → Prop}, wpPr K .nop e Q = Q e) ∧
    (∀ {K : Nat → List D → List D → Prop} {g : Nat} {xs : List A} {r : Nat} {e : Env} {Q : Env → Prop}, wpPr K (.ca g xs r) e Q = calQ K g (xs.map (ev e.E)) r e Q) ∧
    (∀ {K : Nat → List D → List D → Prop} {f : A} {g : Nat} {xs : List A} {r : Nat} {e : Env} {Q : Env → Prop}, wpPr K (.cd f g xs r) e Q = fnQ g (calQ K g (xs.map (ev e.E)) r e Q) (ev e.E f)) ∧
    (∀ {g : Nat} {P : Prop}, fnQ g P (.f g []) = P) ∧
    (∀ {K : Nat → List D → List D → Prop} {n : Nat} {e : Env} {Q : Env → Prop}, wpPr K (.tk n) e Q = tkQ e Q (e.E n)) ∧
    (∀ {e : Env} {Q : Env → Prop} {d : D}, tkQ e Q (.g [d]) = Q (e ++ [d, .g [.u]])) ∧
    (∀ {K : Nat → List D → List D → Prop} {n k : Nat} {p : List PE} {e : Env} {Q : Env → Prop}, wpPr K (.sp n p k) e Q = twoQ e Q (spD k (e.E n) (p.mapM (PE.ev e.E)))) ∧
    (∀ {K : Nat → List D → List D → Prop} {n : Nat} {e : Env} {Q : Env → Prop}, wpPr K (.sw n) e Q = twoQ e Q (swD (e.E n))) ∧
    (∀ {K : Nat → List D → List D → Prop} {e : Env} {Q : Env → Prop} (n : Nat) (p : List PE) (a : A) (k : Nat), wpPr K (.jn n p a k) e Q = valQ e Q (evP e.E (.jn n p a k))) ∧
    (∀ {e : Env} {Q : Env → Prop} {x y : D}, twoQ e Q (some (x, y)) = Q (e ++ [x, y])) ∧
    (∀ {K : Nat → List D → List D → Prop} {e : Env} {Q : Env → Prop} (s : Sh) (d : D), wpPr K (.cs s d) e Q = valQ e Q (evP e.E (.cs s d))) ∧
    (∀ {K : Nat → List D → List D → Prop} {e : Env} {Q : Env → Prop} (a : A), wpPr K (.cy a) e Q = valQ e Q (evP e.E (.cy a))) ∧
    (∀ {K : Nat → List D → List D → Prop} {e : Env} {Q : Env → Prop} (op : BinOp) (a b : A), wpPr K (.bi op a b) e Q = valQ e Q (evP e.E (.bi op a b))) ∧
    (∀ {K : Nat → List D → List D → Prop} {e : Env} {Q : Env → Prop} (op : BinOp) (a b : A), wpPr K (.bb op a b) e Q = valQ e Q (evP e.E (.bb op a b))) ∧
    (∀ {K : Nat → List D → List D → Prop} {e : Env} {Q : Env → Prop} (op : UnOp) (a : A), wpPr K (.un op a) e Q = valQ e Q (evP e.E (.un op a))) ∧
    (∀ {K : Nat → List D → List D → Prop} {e : Env} {Q : Env → Prop} (a b c : A), wpPr K (.pk a b c) e Q = valQ e Q (evP e.E (.pk a b c))) ∧
    (∀ {K : Nat → List D → List D → Prop} {e : Env} {Q : Env → Prop} (k : IntKind) (a : A), wpPr K (.cv k a) e Q = valQ e Q (evP e.E (.cv k a))) ∧
    (∀ {K : Nat → List D → List D → Prop} {e : Env} {Q : Env → Prop} (a : A) (p : List PE), wpPr K (.ln a p) e Q = valQ e Q (evP e.E (.ln a p))) ∧
    (∀ {K : Nat → List D → List D → Prop} {e : Env} {Q : Env → Prop} (a : A), wpPr K (.sn a) e Q = valQ e Q (evP e.E (.sn a))) ∧
    (∀ {K : Nat → List D → List D → Prop} {e : Env} {Q : Env → Prop} (a i : A), wpPr K (.sx a i) e Q = valQ e Q (evP e.E (.sx a i))) ∧
    (∀ {K : Nat → List D → List D → Prop} {e : Env} {Q : Env → Prop} (a : A) (lo hi : Option A), wpPr K (.ss a lo hi) e Q = valQ e Q (evP e.E (.ss a lo hi))) ∧
    (∀ {K : Nat → List D → List D → Prop} {e : Env} {Q : Env → Prop} (a : A) (p : List PE) (i : A), wpPr K (.ix a p i) e Q = valQ e Q (evP e.E (.ix a p i))) ∧
    (∀ {K : Nat → List D → List D → Prop} {e : Env} {Q : Env → Prop} (n : Nat) (p : List PE) (a : A), wpPr K (.up n p a) e Q = valQ e Q (evP e.E (.up n p a))) ∧
    (∀ {K : Nat → List D → List D → Prop} {e : Env} {Q : Env → Prop} (fz : Bool) (a : A) (lo hi : Option A), wpPr K (.sb fz a lo hi) e Q = valQ e Q (evP e.E (.sb fz a lo hi))) ∧
    (∀ {K : Nat → List D → List D → Prop} {e : Env} {Q : Env → Prop} (fl : Bool) (a b : A), wpPr K (.ap fl a b) e Q = valQ e Q (evP e.E (.ap fl a b))) ∧
    (∀ {K : Nat → List D → List D → Prop} {e : Env} {Q : Env → Prop} (d : D) (n c : A), wpPr K (.mk d n c) e Q = valQ e Q (evP e.E (.mk d n c))) ∧
    (∀ {K : Nat → List D → List D → Prop} {e : Env} {Q : Env → Prop} (s : Sh) (xs : List A), wpPr K (.li s xs) e Q = valQ e Q (evP e.E (.li s xs))) ∧
    (∀ {K : Nat → List D → List D → Prop} {e : Env} {Q : Env → Prop} (a : A), wpPr K (.bs a) e Q = valQ e Q (evP e.E (.bs a))) ∧
    (∀ {K : Nat → List D → List D → Prop} {e : Env} {Q : Env → Prop} (a : A), wpPr K (.sy a) e Q = valQ e Q (evP e.E (.sy a))) ∧
    (∀ {K : Nat → List D → List D → Prop} {e : Env} {Q : Env → Prop} (a b : A), wpPr K (.mx a b) e Q = valQ e Q (evP e.E (.mx a b))) ∧
    (∀ {K : Nat → List D → List D → Prop} {e : Env} {Q : Env → Prop} (a b : A), wpPr K (.mn a b) e Q = valQ e Q (evP e.E (.mn a b))) ∧
    (∀ {K : Nat → List D → List D → Prop} {e : Env} {Q : Env → Prop} (a i : A), wpPr K (.iy a i) e Q = valQ e Q (evP e.E (.iy a i))) ∧
    (∀ {K : Nat → List D → List D → Prop} {e : Env} {Q : Env → Prop} (k : Nat) (xs : List (A × Nat)), wpPr K (.bg k xs) e Q = valQ e Q (evP e.E (.bg k xs))) ∧
    (∀ {K : Nat → List D → List D → Prop} {e : Env} {Q : Env → Prop} (a : A), wpPr K (.bp a) e Q = valQ e Q (evP e.E (.bp a))) ∧
    (∀ {K : Nat → List D → List D → Prop} {e : Env} {Q : Env → Prop} (a : A) (k : Nat), wpPr K (.gp a k) e Q = valQ e Q (evP e.E (.gp a k))) ∧
    (∀ {K : Nat → List D → List D → Prop} {e : Env} {Q : Env → Prop} (w : Bool) (a : A), wpPr K (.nz w a) e Q = valQ e Q (evP e.E (.nz w a))) ∧
    (∀ {K : Nat → List D → List D → Prop} {e : Env} {Q : Env → Prop} (a : A), wpPr K (.nn a) e Q = valQ e Q (evP e.E (.nn a))) ∧
    (∀ {K : Nat → List D → List D → Prop} {e : Env} {Q : Env → Prop} (k : Nat) (a : A), wpPr K (.wl k a) e Q = valQ e Q (evP e.E (.wl k a))) ∧
    (∀ {K : Nat → List D → List D → Prop} {e : Env} {Q : Env → Prop} (n k : Nat) (a : A), wpPr K (.ws n k a) e Q = valQ e Q (evP e.E (.ws n k a))) ∧
    (∀ {K : Nat → List D → List D → Prop} {e : Env} {Q : Env → Prop} (a : A) (p : List PE), wpPr K (.gt a p) e Q = valQ e Q (evP e.E (.gt a p))) ∧
    (∀ {K : Nat → List D → List D → Prop} {e : Env} {Q : Env → Prop} (fl : Bool) (a : A) (k : Nat), wpPr K (.fp fl a k) e Q = valQ e Q (evP e.E (.fp fl a k))) ∧
    (∀ {K : Nat → List D → List D → Prop} {e : Env} {Q : Env → Prop} (n : Nat) (p : List PE) (a : A) (i k : Nat), wpPr K (.uq n p a i k) e Q = valQ e Q (evP e.E (.uq n p a i k))) ∧
    (∀ {K : Nat → List D → List D → Prop} {e : Env} {Q : Env → Prop} (n : Nat), wpPr K (.cb n) e Q = valQ e Q (evP e.E (.cb n))) ∧
    (∀ {E : Nat → D} {n : Nat}, skE E [] n = List.replicate n .u) ∧
    (∀ {E : Nat → D} {m : Nat} {z : List (Option Nat)} {n : Nat}, skE E (some m :: z) (n + 1) = E m :: skE E z n) ∧
    (∀ {E : Nat → D} {z : List (Option Nat)} {n : Nat}, skE E (none :: z) (n + 1) = .u :: skE E z n) ∧
    (∀ {E : Nat → D} {n : Nat}, ev E (.e n) = E n) ∧
    (∀ {E : Nat → D} {d : D}, ev E (.c d) = d) ∧
    (∀ {E : Nat → D} {s : Sh} {d : D}, evP E (.cs s d) = some d) ∧
    (∀ {E : Nat → D} {a : A}, evP E (.cy a) = some (ev E a)) ∧
    (∀ {E : Nat → D} {op : BinOp} {a b : A}, evP E (.bi op a b) = binD op (ev E a) (ev E b)) ∧
    (∀ {E : Nat → D} {op : BinOp} {a b : A}, evP E (.bb op a b) = boolD op (ev E a) (ev E b)) ∧
    (∀ {E : Nat → D} {op : UnOp} {a : A}, evP E (.un op a) = unD op (ev E a)) ∧
    (∀ {E : Nat → D} {c a b : A}, evP E (.pk c a b) = pkD (ev E c) (ev E a) (ev E b)) ∧
    (∀ {a b : D}, pkD (.b true) a b = some a) ∧
    (∀ {a b : D}, pkD (.b false) a b = some b) ∧
    (∀ {p q : Bool}, pkD (.b p) (.b q) (.b false) = some (.b (p && q))) ∧
    (∀ {p q : Bool}, pkD (.b p) (.b true) (.b q) = some (.b (p || q))) ∧
    (∀ {E : Nat → D} {k : IntKind} {a : A}, evP E (.cv k a) = cvD k (ev E a)) ∧
    (∀ {k k' : IntKind} {n : Int}, cvD k (.i k' n) = some (.i k (k.wrap n))) ∧
    (∀ {E : Nat → D} {a : A} {p : List PE}, evP E (.ln a p) = (pathD E p (ev E a)).bind lenD) ∧
    (∀ {E : Nat → D} {d : D}, pathD E [] d = some d) ∧
    (∀ {E : Nat → D} {pe : PE} {d : D}, pathD E [pe] d = (pe.ev E).bind fun i => getP [i] d) ∧
    (∀ {E : Nat → D} {a : A}, evP E (.sn a) = snD (ev E a)) ∧
    (∀ {E : Nat → D} {a i : A}, evP E (.sx a i) = sxD (ev E a) (ev E i)) ∧
    (∀ {E : Nat → D} {a : A} {lo hi : Option A}, evP E (.ss a lo hi) = ssD (ev E a) (lo.map (ev E)) (hi.map (ev E))) ∧
    (∀ {E : Nat → D} {a i : A}, evP E (.ix a [] i) = ixD (ev E a) (ev E i)) ∧
    (∀ {E : Nat → D} {a i : A} {p : List PE}, evP E (.ix a p i) = (pathD E p (ev E a)).bind fun d => ixD d (ev E i)) ∧
    (∀ {E : Nat → D} {a i : A}, evP E (.iy a i) = (ixD (ev E a) (ev E i)).bind flatD) ∧
    (∀ {E : Nat → D} {n : Nat} {p : List PE} {a : A}, evP E (.up n p a) = upD (p.mapM (PE.ev E)) (E n) (ev E a)) ∧
    (∀ {E : Nat → D} {pe : PE}, [pe].mapM (PE.ev E) = (pe.ev E).map ([·])) ∧
    (∀ {E : Nat → D} {pe qe : PE}, [pe, qe].mapM (PE.ev E) = (pe.ev E).bind fun i => (qe.ev E).map fun j => [i, j]) ∧
    (∀ {E : Nat → D} {n : Nat}, PE.ev E (.k n) = some n) ∧
    (∀ {E : Nat → D} {n : Nat}, PE.ev E (.e n) = natD (E n)) ∧
    (∀ {k : IntKind} {z : Int}, (0 ≤ z) → natD (.i k z) = some z.toNat) ∧
    (∀ {E : Nat → D} {fz : Bool} {a : A} {lo hi : Option A}, evP E (.sb fz a lo hi) = subD (ev E a) (lo.map (ev E)) (hi.map (ev E))) ∧
    (∀ {E : Nat → D} {fl : Bool} {a b : A}, evP E (.ap fl a b) = appD fl (ev E a) (ev E b)) ∧
    (∀ {E : Nat → D} {d : D} {n c : A}, evP E (.mk d n c) = mkD d (ev E n) (ev E c)) ∧
    (∀ {E : Nat → D} {s : Sh} {xs : List A}, evP E (.li s xs) = liD (xs.map (ev E))) ∧
    (∀ {E : Nat → D} {a : A}, evP E (.bs a) = bsD (ev E a)) ∧
    (∀ {E : Nat → D} {a : A}, evP E (.sy a) = syD (ev E a)) ∧
    (∀ {E : Nat → D} {a b : A}, evP E (.mx a b) = mxD (ev E a) (ev E b)) ∧
    (∀ {E : Nat → D} {a b : A}, evP E (.mn a b) = mnD (ev E a) (ev E b)) ∧
    (∀ {k : IntKind} {x y : Int}, mxD (.i k x) (.i k y) = some (.i k (max x y))) ∧
    (∀ {k : IntKind} {x y : Int}, mnD (.i k x) (.i k y) = some (.i k (min x y))) ∧
    (∀ (n : Nat), Env.E [] n = .u) ∧
    (∀ (d : D) (e : Env), Env.E (d :: e) 0 = d) ∧
    (∀ (d : D) (e : Env) (n : Nat), Env.E (d :: e) (n + 1) = Env.E e n) ∧
    (∀ {e : Env}, outE [] e = []) ∧
    (∀ {n : Nat} {o : List (Option Nat)} {e : Env}, outE (some n :: o) e = e.E n :: outE o e) ∧
    (∀ {o : List (Option Nat)} {e : Env}, outE (none :: o) e = .u :: outE o e) ∧
    (∀ {k : IntKind} {a b : Int}, binD .add (.i k a) (.i k b) = some (.i k (k.wrap (a + b)))) ∧
    (∀ {k : IntKind} {a b : Int}, binD .sub (.i k a) (.i k b) = some (.i k (k.wrap (a - b)))) ∧
    (∀ {k : IntKind} {a b : Int}, binD .mul (.i k a) (.i k b) = some (.i k (k.wrap (a * b)))) ∧
    (∀ {k : IntKind} {a b : Int}, (b ≠ 0) → binD .quo (.i k a) (.i k b) = some (.i k (k.wrap (a.tdiv b)))) ∧
    (∀ {k : IntKind} {a b : Int}, (b ≠ 0) → binD .rem (.i k a) (.i k b) = some (.i k (a.tmod b))) ∧
    (∀ {k : IntKind} {a b : Int}, binD .eql (.i k a) (.i k b) = some (.b (decide (a = b)))) ∧
    (∀ {k : IntKind} {a b : Int}, binD .neq (.i k a) (.i k b) = some (.b (!decide (a = b)))) ∧
    (∀ {k : IntKind} {a b : Int}, binD .lss (.i k a) (.i k b) = some (.b (decide (a < b)))) ∧
    (∀ {k : IntKind} {a b : Int}, binD .leq (.i k a) (.i k b) = some (.b (decide (a ≤ b)))) ∧
    (∀ {k : IntKind} {a b : Int}, binD .gtr (.i k a) (.i k b) = some (.b (decide (b < a)))) ∧
    (∀ {k : IntKind} {a b : Int}, binD .geq (.i k a) (.i k b) = some (.b (decide (b ≤ a)))) ∧
    (∀ {p : Bool}, unD .not (.b p) = some (.b (!p))) ∧
    (∀ {k : IntKind} {a : Int}, unD .neg (.i k a) = some (.i k (k.wrap (0 - a)))) ∧
    (∀ {p q : Bool}, boolD .eql (.b p) (.b q) = some (.b (p == q))) ∧
    (∀ {p q : Bool}, boolD .neq (.b p) (.b q) = some (.b (!(p == q)))) ∧
    (∀ {x y : List Nat}, binD .eql (.s x) (.s y) = some (.b (x == y))) ∧
    (∀ {x y : List Nat}, binD .neq (.s x) (.s y) = some (.b (!(x == y)))) ∧
    (∀ {x y : List Nat}, (x.length + y.length ≤ 1099511627776) → binD .add (.s x) (.s y) = some (.s (x ++ y))) ∧
    (∀ {x : Int}, (-9223372036854775808 ≤ x ∧ x ≤ 9223372036854775807) → IntKind.i64.wrap x = x) ∧
    (∀ {x : Int}, (0 ≤ x ∧ x ≤ 255) → IntKind.u8.wrap x = x) ∧
    (∀ {E : Nat → D} {k : Nat} {xs : List (A × Nat)}, evP E (.bg k xs) = bgD k (xs.map fun x => (ev E x.1, x.2))) ∧
    (∀ {k : Nat} {l : List (D × Nat)}, bgD k l = bg2 k true l []) ∧
    (∀ {k : Nat} {r : List D}, bg2 k true [] r = some (.g r)) ∧
    (∀ {k : Nat} {x : D × Nat} {l : List (D × Nat)} {r : List D}, bg2 k true (x :: l) r = bg2 k (putB k x) l (r ++ [x.1])) ∧
    (∀ {d : D} {i : Nat}, putB 0 (d, i) = d.one) ∧
    (∀ {k i : Nat} {q : IntKind} {n : Int}, putB k (.i q n, i) = true) ∧
    (∀ {k i : Nat} {x : List Nat}, putB k (.s x, i) = true) ∧
    (∀ {k i : Nat} {x : Bool}, putB k (.b x, i) = true) ∧
    (∀ {E : Nat → D} {a : A}, evP E (.bp a) = bpD (ev E a)) ∧
    (∀ {xs : List D}, bpD (.g xs) = some (.p xs)) ∧
    (lenK [] 0 = true) ∧
    (∀ {x : D} {xs : List D} {k : Nat}, lenK (x :: xs) (k + 1) = lenK xs k) ∧
    (allO [] = true) ∧
    (∀ {x : D} {xs : List D}, allO (x :: xs) = (x.one && allO xs)) ∧
    (∀ {α : Type} {r : α}, okQ r true = some r) ∧
    (∀ {E : Nat → D} {a : A} {k : Nat}, evP E (.gp a k) = gpD k (ev E a)) ∧
    (∀ {xs : List D} {k : Nat}, gpD k (.p xs) = okQ (.g xs) (lenK xs k)) ∧
    (∀ {E : Nat → D} {w : Bool} {a : A}, evP E (.nz w a) = (nzD (ev E a)).map fun x => .b (x == w)) ∧
    (nzD .z = some true) ∧
    (∀ {xs : List D}, nzD (.p xs) = some false) ∧
    (∀ {E : Nat → D} {a : A}, evP E (.nn a) = nnD (ev E a)) ∧
    (∀ {xs : List D}, nnD (.p xs) = some (.p xs)) ∧
    (∀ {E : Nat → D} {k : Nat} {a : A}, evP E (.wl k a) = wlD k (ev E a)) ∧
    (∀ {xs : List D} {k : Nat}, wlD k (.g xs) = okQ (.g xs) (lenK xs k && allO xs)) ∧
    (∀ {E : Nat → D} {n k : Nat} {a : A}, evP E (.ws n k a) = wsD (E n) k (ev E a)) ∧
    (∀ {ys xs : List D} {k : Nat}, wsD (.g ys) k (.g xs) = okQ (.g xs) (lenK ys k && (lenK xs k && allO xs))) ∧
    (∀ {E : Nat → D} {a : A} {p : List PE}, evP E (.gt a p) = (pathD E p (ev E a)).bind known) ∧
    (∀ {i : Nat} {xs : List D}, getP [i] (.g xs) = xs[i]?) ∧
    (∀ {q : IntKind} {n : Int}, known (.i q n) = some (.i q n)) ∧
    (∀ {x : Bool}, known (.b x) = some (.b x)) ∧
    (∀ {x : List Nat}, known (.s x) = some (.s x)) ∧
    (∀ {x : List D}, known (.l x) = some (.l x)) ∧
    (∀ {x : List D}, known (.p x) = some (.p x)) ∧
    (known .z = some .z) ∧
    (∀ {E : Nat → D} {fl : Bool} {a : A} {k : Nat}, evP E (.fp fl a k) = fpE fl k (ev E a)) ∧
    (∀ {fl : Bool} {k : Nat} {xs : List D}, fpE fl k (.p xs) = xs[k]?.bind (fpK fl)) ∧
    (∀ {d : D}, fpK false d = known d) ∧
    (∀ {q : IntKind} {n : Int}, fpK true (.i q n) = some (.i q n)) ∧
    (∀ {x : List Nat}, fpK true (.s x) = some (.s x)) ∧
    (∀ {x : Bool}, fpK true (.b x) = some (.b x)) ∧
    (∀ {i : Nat} {xs : List D} {x : D}, setP [i] (.g xs) x = xs[i]?.map fun _ => .g (xs.set i x)) ∧
    (∀ {E : Nat → D} {n : Nat} {p : List PE} {a : A} {i k : Nat}, evP E (.uq n p a i k) = uqD (p.mapM (PE.ev E)) (E n) (ev E a) i k) ∧
    (∀ {E : Nat → D} {n : Nat}, evP E (.cb n) = cbD (E n)) ∧
    (∀ {x : D} {xs : List D}, cbD (.g (x :: xs)) = some .u) ∧
    (∀ {E : Nat → D} {n k : Nat} {p : List PE} {a : A}, evP E (.jn n p a k) = jnD (p.mapM (PE.ev E)) (E n) (ev E a) k) ∧
    (∀ {xs : List D}, swD (.g xs) = some (.g xs, .g (List.replicate xs.length .u))) ∧
    (∀ {k i : Nat} {xs : List D}, spD k (.g xs) (some [i]) = xs[i]?.bind fun x => if depB k x = true then some (x, .g (xs.set i .u)) else none) ∧
    (∀ {xs : List D}, (D.l xs).one = true) ∧
    (∀ {xs : List D}, (D.p xs).one = true) ∧
    (D.z.one = true) ∧
    (∀ {x : D} {xs : List D}, (x :: xs)[0]? = some x) ∧
    (∀ {x : D} {xs : List D} {n : Nat}, (x :: xs)[n + 1]? = xs[n]?) ∧
    (∀ {zs : List Int}, lenD (LI zs) = some (.n zs.length)) ∧
    (∀ {zs : List Int} {i : Int} {k : IntKind}, (0 ≤ i ∧ i < zs.length) → ixD (LI zs) (.i k i) = some (.n (atI zs i))) ∧
    (∀ {x : Int} {k : IntKind}, flatD (.i k x) = some (.i k x)) ∧
    (∀ {zs : List Int} {i x : Int}, (0 ≤ i ∧ i < zs.length) → setP [i.toNat] (LI zs) (.n x) = some (LI (seI zs i x))) ∧
    (∀ {zs : List Int} {i j : Int}, (0 ≤ i ∧ i ≤ j ∧ j ≤ zs.length) → subD (LI zs) (some (.n i)) (some (.n j)) = some (LI (sub zs i j))) ∧
    (∀ {zs : List Int} {j : Int}, (0 ≤ j ∧ j ≤ zs.length) → subD (LI zs) none (some (.n j)) = some (LI (sub zs 0 j))) ∧
    (∀ {zs : List Int} {i : Int}, (0 ≤ i ∧ i ≤ zs.length) → subD (LI zs) (some (.n i)) none = some (LI (sub zs i zs.length))) ∧
    (∀ {zs ys : List Int} {fl : Bool}, (zs.length + ys.length ≤ 1099511627776) → appD fl (LI zs) (LI ys) = some (LI (zs ++ ys))) ∧
    (∀ {x : Int} {n m : Int}, (0 ≤ n ∧ n ≤ m ∧ m ≤ 1099511627776) → mkD (.n x) (.n n) (.n m) = some (LI (rep n x))) ∧
    (liD [] = some (.l [])) ∧
    (∀ {a : Int}, liD [.n a] = some (LI [a])) ∧
    (∀ {a b : Int}, liD [.n a, .n b] = some (LI [a, b])) ∧
    (∀ {a b c : Int}, liD [.n a, .n b, .n c] = some (LI [a, b, c])) ∧
    (∀ {x : Int} {k : IntKind}, (D.i k x).one = true) ∧
    (∀ {zs : List Int}, (LI zs).one = true) ∧
    (∀ {s : List Nat}, snD (.s s) = some (.n s.length)) ∧
    (∀ {s : List Nat} {i : Int} {k : IntKind}, (0 ≤ i ∧ i < s.length) → sxD (.s s) (.i k i) = some (.y (atB s i))) ∧
    (∀ {s : List Nat} {i j : Int}, (0 ≤ i ∧ i ≤ j ∧ j ≤ s.length) → ssD (.s s) (some (.n i)) (some (.n j)) = some (.s (sub s i j))) ∧
    (∀ {s : List Nat} {j : Int}, (0 ≤ j ∧ j ≤ s.length) → ssD (.s s) none (some (.n j)) = some (.s (sub s 0 j))) ∧
    (∀ {s : List Nat} {i : Int}, (0 ≤ i ∧ i ≤ s.length) → ssD (.s s) (some (.n i)) none = some (.s (sub s i s.length))) ∧
    (∀ {ss : List (List Nat)}, lenD (LS ss) = some (.n ss.length)) ∧
    (∀ {ss : List (List Nat)} {i : Int} {k : IntKind}, (0 ≤ i ∧ i < ss.length) → ixD (LS ss) (.i k i) = some (.s (atS ss i))) ∧
    (∀ {s : List Nat}, flatD (.s s) = some (.s s)) ∧
    (∀ {s : List Nat} {ss : List (List Nat)} {i : Int}, (0 ≤ i ∧ i < ss.length) → setP [i.toNat] (LS ss) (.s s) = some (LS (seS ss i s))) ∧
    (∀ {ss : List (List Nat)} {i j : Int}, (0 ≤ i ∧ i ≤ j ∧ j ≤ ss.length) → subD (LS ss) (some (.n i)) (some (.n j)) = some (LS (sub ss i j))) ∧
    (∀ {ss ts : List (List Nat)} {fl : Bool}, (ss.length + ts.length ≤ 1099511627776) → appD fl (LS ss) (LS ts) = some (LS (ss ++ ts))) ∧
    (∀ {s : List Nat} {n m : Int}, (0 ≤ n ∧ n ≤ m ∧ m ≤ 1099511627776) → mkD (.s s) (.n n) (.n m) = some (LS (rep n s))) ∧
    (∀ {a : List Nat}, liD [.s a] = some (LS [a])) ∧
    (∀ {s : List Nat}, (D.s s).one = true) ∧
    (∀ {bs : List Nat}, lenD (LB bs) = some (.n bs.length)) ∧
    (∀ {bs : List Nat} {i : Int} {k : IntKind}, (0 ≤ i ∧ i < bs.length) → ixD (LB bs) (.i k i) = some (.y (atB bs i))) ∧
    (∀ {bs cs : List Nat} {fl : Bool}, (bs.length + cs.length ≤ 1099511627776) → appD fl (LB bs) (LB cs) = some (LB (bs ++ cs))) ∧
    (∀ {c : Nat}, liD [.y c] = some (LB [c])) ∧
    (∀ {bs : List Nat}, (bs.length ≤ 1099511627776) → syD (.s bs) = some (LB bs)) ∧
    (∀ {bs : List Bool}, lenD (LT bs) = some (.n bs.length)) ∧
    (∀ {bs : List Bool} {i : Int} {k : IntKind}, (0 ≤ i ∧ i < bs.length) → ixD (LT bs) (.i k i) = some (.b (atT bs i))) ∧
    (∀ {c : Bool}, flatD (.b c) = some (.b c)) ∧
    (∀ {bs : List Bool} {i : Int} {c : Bool}, (0 ≤ i ∧ i < bs.length) → setP [i.toNat] (LT bs) (.b c) = some (LT (seT bs i c))) ∧
    (∀ {c : Bool} {n m : Int}, (0 ≤ n ∧ n ≤ m ∧ m ≤ 1099511627776) → mkD (.b c) (.n n) (.n m) = some (LT (rep n c))) ∧
    (∀ {c : Bool}, (D.b c).one = true) ∧
    (∀ {rs : List (List Int)}, lenD (LL rs) = some (.n rs.length)) ∧
    (∀ {rs : List (List Int)} {i : Int} {k : IntKind}, (0 ≤ i ∧ i < rs.length) → ixD (LL rs) (.i k i) = some (LI (atL rs i))) ∧
    (∀ {rs : List (List Int)} {i : Int}, (0 ≤ i ∧ i < rs.length) → getP [i.toNat] (LL rs) = some (LI (atL rs i))) ∧
    (∀ {rs : List (List Int)} {r : List Int} {i : Int}, (0 ≤ i ∧ i < rs.length) → setP [i.toNat] (LL rs) (LI r) = some (LL (seL rs i r))) ∧
    (∀ {rs : List (List Int)} {i j x : Int}, (0 ≤ i ∧ i < rs.length ∧ 0 ≤ j ∧ j < (atL rs i).length) → setP [i.toNat, j.toNat] (LL rs) (.n x) = some (LL (seL rs i (seI (atL rs i) j x)))) ∧
    (∀ {rs qs : List (List Int)} {fl : Bool}, (rs.length + qs.length ≤ 1099511627776 ∧ fl = false) → appD fl (LL rs) (LL qs) = some (LL (rs ++ qs))) ∧
    (∀ {rs : List (List Int)} {i j : Int}, (0 ≤ i ∧ i ≤ j ∧ j ≤ rs.length) → subD (LL rs) (some (.n i)) (some (.n j)) = some (LL (sub rs i j))) ∧
    (∀ {rs : List (List Int)} {i : Int}, (0 ≤ i ∧ i ≤ rs.length) → subD (LL rs) (some (.n i)) none = some (LL (sub rs i rs.length))) ∧
    (∀ {r : List Int}, liD [LI r] = some (LL [r])) ∧
    (∀ {is : List Nat} {d : D} {k : IntKind} {n : Int}, upD (some is) d (.i k n) = setP is d (.i k n)) ∧
    (∀ {is : List Nat} {d : D} {u : List Nat}, upD (some is) d (.s u) = setP is d (.s u)) ∧
    (∀ {is : List Nat} {d : D} {u : Bool}, upD (some is) d (.b u) = setP is d (.b u)) ∧
    (∀ {is : List Nat} {d : D} {u : List Int}, upD (some is) d (LI u) = setP is d (LI u)) ∧
    (∀ {is : List Nat} {d : D} {u : List D}, upD (some is) d (.l u) = setP is d (.l u)) ∧
    (∀ {is : List Nat} {d : D} {u : List (List Nat)}, upD (some is) d (LS u) = setP is d (LS u)) ∧
    (∀ {is : List Nat} {d : D} {u : List (List Int)}, upD (some is) d (LL u) = setP is d (LL u)) ∧
    (∀ {x : List Int}, depB 1 (LI x) = true) ∧
    (∀ {x : List (List Nat)}, depB 1 (LS x) = true) ∧
    (∀ {x : List (List Int)}, depB 2 (LL x) = true) ∧
    (∀ {is : Option (List Nat)} {d : D} {x : List Int}, jnD is d (LI x) 1 = is.bind fun is => setP is d (LI x)) ∧
    (∀ {is : Option (List Nat)} {d : D} {x : List (List Nat)}, jnD is d (LS x) 1 = is.bind fun is => setP is d (LS x)) ∧
    (∀ {is : Option (List Nat)} {d : D} {x : List (List Int)}, jnD is d (LL x) 2 = is.bind fun is => setP is d (LL x)) ∧
    (∀ {rs : List (List Int)} {i : Int}, (0 ≤ i ∧ i < rs.length) → spD 1 (LL rs) (some [i.toNat]) = some (LI (atL rs i), holL rs i)) ∧
    (∀ {rs : List (List Int)} {i : Int} {x : List Int}, (0 ≤ i ∧ i < rs.length) → setP [i.toNat] (holL rs i) (LI x) = some (LL (seL rs i x))) ∧
    (∀ {zs : List Int} {i x : Int}, (seI zs i x).length = zs.length) ∧
    (∀ {i : Int} {ss : List (List Nat)} {s : List Nat}, (seS ss i s).length = ss.length) ∧
    (∀ {i : Int} {ss : List Bool} {s : Bool}, (seT ss i s).length = ss.length) ∧
    (∀ {i : Int} {ss : List (List Int)} {s : List Int}, (seL ss i s).length = ss.length) ∧
    (∀ {i j : Int} {α : Type} {xs : List α}, (sub xs i j).length = min j.toNat xs.length - i.toNat) ∧
    (∀ {α : Type} {n : Int} {y : α}, (rep n y).length = n.toNat) ∧
    (∀ {x : List Nat}, (x == x) = true) ∧
    (∀ {p : Bool}, (p == p) = true) ∧
    (∀ {a b : Int}, (0 ≤ a) → a.tmod b = a % b) ∧
    (∀ {a b : Int}, (0 ≤ a) → a.tdiv b = a / b) ∧
    (∀ {x : Int}, (0 ≤ x) → liD [.i .u8 x] = some (LB [x.toNat])) ∧
    (∀ {x : Nat}, (x < 256) → bsD (LB [x]) = some (.s [x])) ∧
    (∀ {α : Type} {a : α} {as bs : List α}, (a :: as) ++ bs = a :: (as ++ bs)) ∧
    (∀ {α : Type} {as : List α}, [] ++ as = as) ∧
    (∀ {α : Type} {as : List α}, as ++ [] = as) ∧
    (∀ {α β : Type} {f : α → β} {a : α} {l : List α}, List.map f (a :: l) = f a :: List.map f l) ∧
    (∀ {α β : Type} {f : α → β}, List.map f [] = []) ∧
    (∀ {α : Type} {a b : α} {l : List α}, (a :: l).set 0 b = b :: l) ∧
    (∀ {α : Type} {a b : α} {l : List α} {n : Nat}, (a :: l).set (n + 1) b = a :: l.set n b) ∧
    (∀ {α : Type} {a : α} {n : Nat}, List.replicate (n + 1) a = a :: List.replicate n a) ∧
    (∀ {α : Type} {a : α}, List.replicate 0 a = []) ∧
    (∀ {α β : Type} {f : α → Option β} {a : α}, (some a).bind f = f a) ∧
    (∀ {α β : Type} {f : α → β} {a : α}, (some a).map f = some (f a)) ∧
    (∀ {α β : Type} {f : α → β}, (none : Option α).map f = none) ∧
    ((!true) = false) ∧
    ((!false) = true) ∧
    (∀ {b : Bool}, (!!b) = b) ∧
    (∀ {α : Sort 1} {a b : α}, (if True then a else b) = a) ∧
    (∀ {α : Sort 1} {a b : α}, (if False then a else b) = b) ∧
    (∀ {b : Bool}, (b && true) = b) ∧
    (∀ {b : Bool}, (true && b) = b) ∧
    (∀ {b : Bool}, (b && false) = false) ∧
    (∀ {b : Bool}, (false && b) = false) ∧
    (∀ {b : Bool}, (b || true) = true) ∧
    (∀ {b : Bool}, (true || b) = true) ∧
    (∀ {b : Bool}, (b || false) = b) ∧
    (∀ {b : Bool}, (false || b) = b) ∧
    (∀ [Decidable True], decide True = true) ∧
    (∀ [Decidable False], decide False = false) ∧
    (∀ {i : Nat}, ((i + 1 : Nat) : Int) = (i : Int) + 1) ∧
    (((0 : Nat) : Int) = 0) ∧
    (∀ {p : Prop}, (p ∧
    True) = p) ∧
    (∀ {p : Prop}, (True ∧
    p) = p) ∧
    (Pr.nop.np = 0) ∧
    (∀ {g : Nat} {xs : List A} {r : Nat}, (Pr.ca g xs r).np = r) ∧
    (∀ {s : Sh} {d : D}, (Pr.cs s d).np = 1) ∧
    (∀ {a : A}, (Pr.cy a).np = 1) ∧
    (∀ {op : BinOp} {a b : A}, (Pr.bi op a b).np = 1) ∧
    (∀ {op : BinOp} {a b : A}, (Pr.bb op a b).np = 1) ∧
    (∀ {op : UnOp} {a : A}, (Pr.un op a).np = 1) ∧
    (∀ {a b c : A}, (Pr.pk a b c).np = 1) ∧
    (∀ {k : IntKind} {a : A}, (Pr.cv k a).np = 1) ∧
    (∀ {a : A} {p : List PE}, (Pr.ln a p).np = 1) ∧
    (∀ {a : A}, (Pr.sn a).np = 1) ∧
    (∀ {a b : A}, (Pr.sx a b).np = 1) ∧
    (∀ {a : A} {lo hi : Option A}, (Pr.ss a lo hi).np = 1) ∧
    (∀ {a : A} {p : List PE} {b : A}, (Pr.ix a p b).np = 1) ∧
    (∀ {n : Nat} {p : List PE} {a : A}, (Pr.up n p a).np = 1) ∧
    (∀ {fz : Bool} {a : A} {lo hi : Option A}, (Pr.sb fz a lo hi).np = 1) ∧
    (∀ {fl : Bool} {a b : A}, (Pr.ap fl a b).np = 1) ∧
    (∀ {d : D} {a b : A}, (Pr.mk d a b).np = 1) ∧
    (∀ {s : Sh} {xs : List A}, (Pr.li s xs).np = 1) ∧
    (∀ {a : A}, (Pr.bs a).np = 1) ∧
    (∀ {a : A}, (Pr.sy a).np = 1) ∧
    (∀ {a b : A}, (Pr.mx a b).np = 1) ∧
    (∀ {a b : A}, (Pr.mn a b).np = 1) ∧
    (∀ {a b : A}, (Pr.iy a b).np = 1) ∧
    (∀ {k : Nat} {xs : List (A × Nat)}, (Pr.bg k xs).np = 1) ∧
    (∀ {a : A}, (Pr.bp a).np = 1) ∧
    (∀ {a : A} {k : Nat}, (Pr.gp a k).np = 1) ∧
    (∀ {w : Bool} {a : A}, (Pr.nz w a).np = 1) ∧
    (∀ {a : A}, (Pr.nn a).np = 1) ∧
    (∀ {k : Nat} {a : A}, (Pr.wl k a).np = 1) ∧
    (∀ {n k : Nat} {a : A}, (Pr.ws n k a).np = 1) ∧
    (∀ {a : A} {p : List PE}, (Pr.gt a p).np = 1) ∧
    (∀ {fl : Bool} {a : A} {k : Nat}, (Pr.fp fl a k).np = 1) ∧
    (∀ {n : Nat} {p : List PE} {a : A} {i k : Nat}, (Pr.uq n p a i k).np = 1) ∧
    (∀ {n : Nat}, (Pr.cb n).np = 1) ∧
    (∀ {n : Nat} {p : List PE} {a : A} {k : Nat}, (Pr.jn n p a k).np = 1) ∧
    (∀ {n : Nat}, (Pr.tk n).np = 2) ∧
    (∀ {n k : Nat} {p : List PE}, (Pr.sp n p k).np = 2) ∧
    (∀ {n : Nat}, (Pr.sw n).np = 2) ∧
    (∀ {a b : Int}, (a < b) → decide (a < b) = true) ∧
    (∀ {a b : Int}, (b ≤ a) → decide (a < b) = false) ∧
    (∀ {a b : Int}, (a ≤ b) → decide (a ≤ b) = true) ∧
    (∀ {a b : Int}, (b < a) → decide (a ≤ b) = false) ∧
    (∀ {a b : Int}, (a = b) → decide (a = b) = true) ∧
    (∀ {a b : Int}, (a < b ∨ b < a) → decide (a = b) = false) :=
  ⟨@wp_seq, @wp_block, @wp_skip, @wp_exit, @wp_ret, @wp_reg, @wp_cond, @seqQ_n, @seqQ_ex, @seqQ_r, @blkQ_n, @blkQ_ex, @blkQ_r, @regQ_mk, @itsQ_mk, @valQ_some, @cndQ_t, @cndQ_f, @lpQ_n, @lpQ_ex, @lpQ_r, @endQ_n, @endQ_r, @exQ_n, @exQ_r, @wp_its_nil, @wp_its_cons, @wp_it, @gdQ_t, @gdQ_f, @gdE_nil, @gdE_cons, @gdB_tt, @gdB_ff, @gdB_tf, @gdB_ft, @wp_pr_nop, @wp_pr_ca, @wp_pr_cd, @fnQ_eq, @wp_pr_tk, @tkQ_g, @wp_pr_sp, @wp_pr_sw, @wp_pr_jn, @twoQ_s, @wp_pr_cs, @wp_pr_cy, @wp_pr_bi, @wp_pr_bb, @wp_pr_un, @wp_pr_pk, @wp_pr_cv, @wp_pr_ln, @wp_pr_sn, @wp_pr_sx, @wp_pr_ss, @wp_pr_ix, @wp_pr_up, @wp_pr_sb, @wp_pr_ap, @wp_pr_mk, @wp_pr_li, @wp_pr_bs, @wp_pr_sy, @wp_pr_mx, @wp_pr_mn, @wp_pr_iy, @wp_pr_bg, @wp_pr_bp, @wp_pr_gp, @wp_pr_nz, @wp_pr_nn, @wp_pr_wl, @wp_pr_ws, @wp_pr_gt, @wp_pr_fp, @wp_pr_uq, @wp_pr_cb, @skE_z, @skE_s, @skE_n, @ev_e, @ev_c, @evP_cs, @evP_cy, @evP_bin, @evP_bbo, @evP_uno, @evP_pk, @pkD_t, @pkD_f, @pkD_ff, @pkD_tt, @evP_cv, @cvD_i, @evP_ln, @pathD_nil, @pathD_one, @evP_sn, @evP_sx, @evP_ss, @evP_ix, @evP_ixp, @evP_iy, @evP_up, @pes_one, @pes_two, @pe_k, @pe_e, @natD_i, @evP_sb, @evP_ap, @evP_mk, @evP_li, @evP_bs, @evP_sy, @evP_mx, @evP_mn, @mxD_n, @mnD_n, @E_nil, @E_zero, @E_succ, @outE_nil, @outE_some, @outE_none, @bin_add, @bin_sub, @bin_mul, @bin_quo, @bin_rem, @bin_eql, @bin_neq, @bin_lss, @bin_leq, @bin_gtr, @bin_geq, @un_not, @un_neg, @boolD_eql, @boolD_neq, @str_eql, @str_neq, @str_add, @wrap_i64, @wrap_u8, @evP_bg, @bgD_eq, @bg2_nil, @bg2_cons, @putB_0, @putB_i, @putB_s, @putB_b, @evP_bp, @bpD_g, @lenK_nil, @lenK_cons, @allO_nil, @allO_cons, @okQ_t, @evP_gp, @gpD_p, @evP_nz, @nzD_z, @nzD_p, @evP_nn, @nnD_p, @evP_wl, @wlD_g, @evP_ws, @wsD_g, @evP_gt, @getP_g, @known_i, @known_b, @known_s, @known_l, @known_p, @known_z, @evP_fp, @fpE_p, @fpK_f, @fpK_ti, @fpK_ts, @fpK_tb, @setP_g, @evP_uq, @evP_cb, @cbD_g, @evP_jn, @swD_g, @spD_g, @one_l, @one_p, @one_z, @ixL_0, @ixL_s, @LI_len, @LI_ix, @flat_i, @LI_set, @LI_sub, @LI_to, @LI_from, @LI_app, @LI_mk, @li_nil, @li_1, @li_2, @li_3, @one_i, @LI_one, @S_len, @S_ix, @S_sub, @S_to, @S_from, @LS_len, @LS_ix, @flat_s, @LS_set, @LS_sub, @LS_app, @LS_mk, @ls_1, @one_s, @LB_len, @LB_ix, @LB_app, @lb_1, @LB_sy, @LT_len, @LT_ix, @flat_b, @LT_set, @LT_mk, @one_b, @LL_len, @LL_ix, @LL_get, @LL_set, @LL_set2, @LL_app, @LL_sub, @LL_from, @ll_1, @up_i, @up_s, @up_b, @up_l, @up_dl, @up_ls, @up_lr, @dep_i1, @dep_s1, @dep_r2, @jn_i, @jn_s, @jn_r, @sp_ll, @jn_ll, @seI_len, @seS_len, @seT_len, @seL_len, @sub_len, @rep_len, @beq_s, @beq_b, @tmod_p, @tdiv_p, @lb_1i, @LB_bs1, List.cons_append, List.nil_append _, List.append_nil _, List.map_cons, List.map_nil, List.set_cons_zero, List.set_cons_succ, List.replicate_succ, List.replicate_zero, Option.bind_some _ _, Option.map_some _ _, Option.map_none _, rfl, rfl, Bool.not_not _, if_pos trivial, if_neg id, Bool.and_true _, Bool.true_and _, Bool.and_false _, Bool.false_and _, Bool.or_true _, Bool.true_or _, Bool.or_false _, Bool.false_or _, decide_eq_true trivial, decide_eq_false id, Int.natCast_succ _, rfl, and_true _, true_and _, rfl, rfl, rfl, rfl, rfl, rfl, rfl, rfl, rfl, rfl, rfl, rfl, rfl, rfl, rfl, rfl, rfl, rfl, rfl, rfl, rfl, rfl, rfl, rfl, rfl, rfl, rfl, rfl, rfl, rfl, rfl, rfl, rfl, rfl, rfl, rfl, rfl, rfl, rfl, decide_eq_true, fun h => decide_eq_false (by omega), decide_eq_true, fun h => decide_eq_false (by omega), decide_eq_true, fun h => decide_eq_false (by omega)⟩

end Go.Cat

/-
  From a contract to a row: the law's call returns true and nothing below has turned.
-/
namespace Go.Cat
open Go.ChangeShapes Go.WideShapes Go.ChangeAt Go.RowKit

section
variable {H : Type} {enc : TypeId × Value → H} {P : Program}
theorem post_below {f : Func} {s : ChangeSpec} {apart fresh handsOn again : Bool} {W W' : World} {args : Array Value} {v : Value} {ds gs : List (DataW H)} {before pa pv : List MemPlace}
    (hW : DataW.Whole enc P f.params.toList s.vars apart W args.toList ds gs before)
    (hres : ∀ (b : Nat) (sp : Nat → Bool) (hd : Bool), DataW.TrodAll enc P W' b sp hd f.resultTypes.toList (v.resultList f.resultTypes.size) (s.fn H (ds ++ gs)).results [])
    (hargs : ∀ sp : Nat → Bool, (∀ p ∈ before, sp p.block = true) → DataW.TrodAll enc P W' 0 sp true f.params.toList args.toList (s.fn H (ds ++ gs)).args pa)
    (hvars : ∀ sp : Nat → Bool, (∀ p ∈ before, sp p.block = true) → DataW.TrodVars enc P W' sp s.vars (s.fn H (ds ++ gs)).vars pv)
    (hps : before = pa ++ pv) (hb : Below W.heap.size W W')
    (hok : ∀ (j : Nat) (t : TypeId) (r : Value), f.resultTypes[j]? = some t → (v.resultList f.resultTypes.size)[j]? = some r → Value.okWide P W' .any 0 t r) :
    s.post enc P f apart fresh handsOn again W args v W' := by
  have hold : ∀ p ∈ before, (fun b => decide (b < W.heap.size)) p.block = true := fun p hp => by simpa using hW.lt p hp
  have hlt := hW.lt
  refine ⟨ds, gs, before, [], pa, pv, hW, hres _ _ _, hargs _ hold, hvars _ hold, World.keptBut_mono (fun p hp => ⟨hp, ?_⟩) (hb.frame (· ∈ before)), fun _ => ?_⟩
  · rw [hps, List.mem_append] at hp
    exact Or.inr hp
  · obtain ⟨_, _, _, _, _, hz, hn⟩ := hW
    refine ⟨hok, _, _, ([] ++ pa) ++ pv, ⟨[] ++ pa, pv, trodAll_append (hargs _ (fun _ _ => rfl)) (hres _ _ _), hvars _ (fun _ _ => rfl), rfl, ?_, ?_⟩, ?_⟩
    · intro b off hp
      have hp' : MemPlace.cell b off ∈ before := by rw [hps]; simpa using hp
      rw [hb.frozen (p := ⟨b, off, none⟩) (by simpa [MemPlace.block] using hlt _ hp')]
      exact hz b off hp'
    · intro ha
      have := hn ha
      rw [hps] at this
      simpa using this
    · intro p hp _
      rw [hps]
      simpa using hp
end

theorem con_bool {P : Program} {fid : Nat → Nat} {f : FuncId} {ps : List Sh} {ds : List D} (h : Con P fid f ⟨ps, [.v], [], none⟩ ds [.b true]) {w : World} {args : List Value}
    (ha : EachS (Own fid w.heap (· ∈ []) (fun _ => False)) ps ds args []) : Calls P f args.toArray w fun e w' => e = .returned (.bool true) ∧ Below w.heap.size w w' := by
  refine (h w (fun _ => False) args [] (by simp) (by simp) ha trivial).mono ?_
  rintro e w' ⟨v, vs, B', rfl, ht, _, hA, h1, h2, h3, _, _, hE⟩
  simp only [Sg.outs, List.map_nil, List.append_nil] at hE
  refine ⟨?_, h1, h2, h3, hA.size, fun k hk => hA.same k hk (by simp)⟩
  match vs, hE with
  | [x], hE =>
    simp only [EachS, Own, Rd] at hE
    obtain ⟨B1, B2, rfl, ⟨_, hx⟩, _⟩ := hE
    simp only [tupled] at ht
    rw [ht, hx]

/-- A row's function as the seat knows it. -/
theorem con_row {P : Program} {tab : List Row} {k : Nat} {r : Row} {ds : List D} (h : KS P tab k ds [.b true]) (hr : rowOf tab k = some r) (hq : r.s.qs = [.v]) (hio : r.s.io = []) (hfb : r.s.fb = none) : Con P (fidOf tab) r.f ⟨r.s.ps, [.v], [], none⟩ ds [.b true] := by
  obtain ⟨r', h1, h2⟩ := h
  rw [hr] at h1
  cases h1
  rw [← hq, ← hio, ← hfb]
  exact h2

/-- Plain parameters. -/
def Plain : D → Value → Prop
  | .i k n, v => v = .int k n
  | .b x, v => v = .bool x
  | .s x, v => v = strV x ∧ (∀ c ∈ x, c < 256) ∧ x.length ≤ 9223372036854775807
  | _, _ => False

theorem plain_rd {fid : Nat → Nat} {h : Array Obj} {Z : Nat → Prop} {d : D} {v : Value} (p : Plain d v) : Rd fid h Z d v := by
  cases d <;> simp_all [Plain, Rd]

def Plains : List D → List Value → Prop
  | [], [] => True
  | d :: ds, v :: vs => Plain d v ∧ Plains ds vs
  | _, _ => False

theorem plains {fid : Nat → Nat} {h : Array Obj} {O X : Nat → Prop} : ∀ {ps : List Sh} {ds : List D} {vs : List Value}, ps = ds.map (fun _ => Sh.v) → Plains ds vs → EachS (Own fid h O X) ps ds vs []
  | _, [], [], hp, _ => by subst hp; simp [EachS]
  | _, d :: ds, v :: vs, hp, hq => by
    subst hp
    simp only [List.map_cons, EachS]
    exact ⟨[], [], rfl, by simp only [Own]; exact ⟨trivial, plain_rd hq.1⟩, plains rfl hq.2⟩
  | _, [], _ :: _, _, hq => by simp [Plains] at hq
  | _, _ :: _, [], _, hq => by simp [Plains] at hq

end Go.Cat

/-
  A law's arguments: how they read as data, and that they read so behind the call.
-/
namespace Go.Cat
open Go.ChangeShapes Go.WideShapes Go.ChangeAt Go.RowKit

section
variable {H : Type} {enc : TypeId × Value → H} {P : Program}

theorem trodAll_stays (hl : laidOutB P = true) {W W' : World} (hb : Below W.heap.size W W') {sp : Nat → Bool} : ∀ {ts : List TypeId} {vs : List Value} {ds : List (DataW H)} {ps : List MemPlace},
    (∀ t ∈ ts, P.readableRec t = true ∧ t < P.types.size) → DataW.TrodAll enc P W 0 (fun _ => true) true ts vs ds ps → (∀ p ∈ ps, sp p.block = true) → (∀ p ∈ ps, p.block < W.heap.size) → DataW.TrodAll enc P W' 0 sp true ts vs ds ps
  | [], vs, ds, ps => fun _ h _ _ => by
    obtain ⟨rfl, rfl, rfl⟩ := trodAll_nil h
    exact trodAll_mk0
  | t :: ts, vs, ds, ps => fun hr h hs hlt => by
    obtain ⟨v, vs', d, ds', p, q, rfl, rfl, rfl, h1, h2⟩ := trodAll_cons h
    refine trodAll_cons_mk ?_ (trodAll_stays hl hb (fun u hu => hr u (List.mem_cons_of_mem _ hu)) h2 (fun x hx => hs x (List.mem_append_right _ hx)) fun x hx => hlt x (List.mem_append_right _ hx))
    obtain ⟨r1, r2⟩ := hr t (List.mem_cons_self ..)
    exact WideElems.Trod_stays hl r1 r2 h1 (fun x hx => hb.same (hlt x (List.mem_append_left _ hx))) fun x hx => hs x (List.mem_append_left _ hx)

/-- A slice of numbers. -/
theorem arg_ints {W : World} {base : Nat} {t e : TypeId} {k : IntKind} {v : Value} {d : DataW H} {ps : List MemPlace} (ht : P.underlying t = some (.slice e)) (he : P.underlying e = some (.int k)) (hc : P.cellsOf e = 1)
    (hval : Value.okWide P W .any base t v) (h : DataW.Trod enc P W 0 (fun _ => true) true t v d ps) :
    ∃ zs : List Int, (∀ z ∈ zs, (Lit.int k z).wf = true) ∧ ∀ (fid : Nat → Nat) (Z : Nat → Prop), (∀ b, ¬ Z b) → Rd fid W.heap Z (.l (zs.map (D.i k))) v := by
  obtain ⟨fuel, hf⟩ := h
  have hv := hval
  simp only [Value.okWide, ht, Cell.okWide] at hv
  obtain ⟨a, len, cap, rfl⟩ := okWide_slice ht hval
  have hcs : (Value.slice a len cap).cells.toList = [.slice a len cap] := rfl
  rw [hcs] at hf
  rcases open_ints ht he hc hf with ⟨h1, _⟩ | ⟨a', len', cap', zs, h1, _, hle, hm, hlen, _, hcell, hwf⟩
  · injection h1 with h1 _
    refine ⟨[], by simp, fun fid Z _ => ?_⟩
    simp only [List.map_nil, Rd]
    exact .inl ⟨trivial, _, h1⟩
  · injection h1 with h1 _
    injection h1 with e1 e2 e3
    subst e1 e2 e3
    have hlen' : zs.length = cap := by simpa using hlen
    simp only [Cell.ok, ht] at hv
    obtain ⟨_, _, _, hspot, row, cells, hsh, _⟩ := hv
    refine ⟨zs.take len, fun z hz => hwf z (List.mem_of_mem_take hz), fun fid Z hZ => ?_⟩
    simp only [Rd]
    right
    unfold World.shape? at hsh
    split at hsh
    · rename_i cs e' fz hb
      have ha : a' = ⟨a'.block, a'.off, none⟩ := by
        cases a'; simp only at hspot; rw [hspot]
      refine ⟨a'.block, a'.off, cap, cs, e', fz, ?_, hb, hZ _, ?_, ?_⟩
      · have hll : ((zs.take len).map (D.i k)).length = len := by simp; omega
        rw [hll, ← ha]
      · have key : ∀ (n o : Nat) (l : List Int), (∀ i, i < l.length → cs[o + i]? = some (.int k (l.getD i 0))) → RdL fid W.heap Z (l.map (D.i k)) (cs.toList.drop o) := by
          intro n o l
          induction l generalizing o with
          | nil => intro _; simp [RdL]
          | cons z l ih =>
            intro hl
            have h0 := hl 0 (by simp)
            simp only [Nat.add_zero, List.getD_cons_zero] at h0
            have : cs.toList.drop o = .int k z :: cs.toList.drop (o + 1) := by
              rw [List.drop_eq_getElem_cons (by have := (Array.getElem?_eq_some_iff.1 h0).1; simpa using this)]
              congr 1
              have := (Array.getElem?_eq_some_iff.1 h0).2
              simpa using this
            rw [this]
            simp only [List.map_cons, RdL, Rd]
            refine ⟨trivial, ih (o + 1) fun i hi => ?_⟩
            have := hl (i + 1) (by simpa using hi)
            simpa [Nat.add_assoc, Nat.add_comm 1 i] using this
        refine key 0 a'.off (zs.take len) fun i hi => ?_
        have hi2 : i < zs.length := by simp at hi; omega
        have h5 := hcell i hi2
        have h6 : cs[a'.off + i]? = some (.int k (zs.getD i 0)) := by
          rw [ha] at h5
          cases i with
          | zero => simpa [World.cell?, Addr.add, hb] using h5
          | succ i => simpa [World.cell?, Addr.add, hb] using h5
        rw [h6]
        have hi3 : i < len := by simp at hi; omega
        simp [List.getD_eq_getElem?_getD, hi3]
      · unfold maxLen at hm
        have hll : ((zs.take len).map (D.i k)).length = len := by simp; omega
        rw [hll]
        exact ⟨hle, by omega⟩
    · cases hsh

/-- A slice of bytes. -/
theorem arg_bytes {W : World} {base : Nat} {t e : TypeId} {v : Value} {d : DataW H} {ps : List MemPlace} (ht : P.underlying t = some (.slice e)) (he : P.underlying e = some (.int .u8)) (hc : P.cellsOf e = 1)
    (hval : Value.okWide P W .any base t v) (h : DataW.Trod enc P W 0 (fun _ => true) true t v d ps) :
    ∃ bs : List Nat, (∀ c ∈ bs, c < 256) ∧ ∀ (fid : Nat → Nat) (Z : Nat → Prop), (∀ b, ¬ Z b) → Rd fid W.heap Z (LB bs) v := by
  obtain ⟨zs, h1, h2⟩ := arg_ints ht he hc hval h
  have hz : ∀ z ∈ zs, 0 ≤ z ∧ z < 256 := by
    intro z hz
    have := h1 z hz
    simp [Lit.wf, IntKind.min, IntKind.max, IntKind.bits, IntKind.signed] at this
    omega
  refine ⟨zs.map Int.toNat, ?_, fun fid Z hZ => ?_⟩
  · intro c hc
    obtain ⟨z, q, rfl⟩ := List.mem_map.1 hc
    have := hz z q
    omega
  · have e : LB (zs.map Int.toNat) = .l (zs.map (D.i .u8)) := by
      simp only [LB, List.map_map]
      congr 1
      refine List.map_congr_left fun z q => ?_
      have := hz z q
      show D.i .u8 ((z.toNat : Nat) : Int) = D.i .u8 z
      rw [Int.toNat_of_nonneg this.1]
    rw [e]; exact h2 fid Z hZ

/-- A string. -/
theorem arg_string {W : World} {base : Nat} {t : TypeId} {v : Value} {d : DataW H} {ps : List MemPlace} (ht : P.underlying t = some .string)
    (hval : Value.okWide P W .any base t v) (h : DataW.Trod enc P W 0 (fun _ => true) true t v d ps) :
    ∃ s : List Nat, (∀ c ∈ s, c < 256) ∧ s.length ≤ 9223372036854775807 ∧ ∀ (fid : Nat → Nat) (Z : Nat → Prop), Rd fid W.heap Z (.s s) v := by
  obtain ⟨s, rfl, _, _, hs⟩ := Go.ChangeMaps.open_string ht hval h
  have hb : ∀ c ∈ s.data.toList.map (·.toNat), c < 256 := by
    intro c hc
    simp only [List.mem_map] at hc
    obtain ⟨x, _, rfl⟩ := hc
    exact x.toNat_lt
  have hl : (s.data.toList.map (·.toNat)).length ≤ 9223372036854775807 := by
    unfold maxLen at hs
    simp only [List.length_map, Array.length_toList]
    have : s.data.size = s.size := rfl
    omega
  refine ⟨s.data.toList.map (·.toNat), hb, hl, fun fid Z => ?_⟩
  simp only [Rd]
  refine ⟨?_, hb, hl⟩
  unfold strV
  congr 1
  apply ByteArray.ext
  simp only [List.map_map]
  apply Array.ext'
  have : ((fun c => UInt8.ofNat c) ∘ fun x : UInt8 => x.toNat) = id := by funext x; simp
  simp [this]
end

/-- Arguments, one by one. -/
theorem eachV_cons {fid : Nat → Nat} {h : Array Obj} {ps : List Sh} {ds : List D} {vs : List Value} {d : D} {v : Value} (hr : Rd fid h (fun b => b ∈ ([] : List Nat) ∨ False) d v)
    (ht : EachS (Own fid h (· ∈ ([] : List Nat)) (fun _ => False)) ps ds vs []) : EachS (Own fid h (· ∈ ([] : List Nat)) (fun _ => False)) (.v :: ps) (d :: ds) (v :: vs) [] := by
  simp only [EachS]
  exact ⟨[], [], rfl, by simp only [Own]; exact ⟨trivial, hr⟩, ht⟩
theorem eachY_cons {fid : Nat → Nat} {h : Array Obj} {ps : List Sh} {ds : List D} {vs : List Value} {d : D} {v : Value} (hr : Rd fid h (· ∈ ([] : List Nat)) d v)
    (ht : EachS (Own fid h (· ∈ ([] : List Nat)) (fun _ => False)) ps ds vs []) : EachS (Own fid h (· ∈ ([] : List Nat)) (fun _ => False)) (.y :: ps) (d :: ds) (v :: vs) [] := by
  simp only [EachS]
  exact ⟨[], [], rfl, by simp only [Own]; exact ⟨trivial, hr⟩, ht⟩
theorem each_nil {fid : Nat → Nat} {h : Array Obj} : EachS (Own fid h (· ∈ ([] : List Nat)) (fun _ => False)) [] [] [] [] := rfl

end Go.Cat

