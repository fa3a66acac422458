import Derived.Test.YtdibnlhlngodeaaGreatDoorPZP
import Derived.Test.YtdibnlhlngodeaaGreatDoorPZR
set_option linter.unusedVariables false
set_option linter.unusedSimpArgs false
/- Results, calls, what was done, messages: which of them are ok. -/
namespace Go.Proofs.YtdibnlhlngodeaaGreatDoor
open Go Go.Tm
def callOk (p : Pln) (c : Cal) : Bool := inB c.client 0 (p.n - 1) && (inB c.seq 1 300 && (inB c.act 0 ((p.acts.length : Int) - 1) && argOk c.args))
theorem len_wrap {n : Nat} (h : n ≤ 2000000) : IntKind.i64.wrap ((n : Int) - 1) = (n : Int) - 1 := w64 (by omega) (by omega)
theorem ev_isClient (p : Pln) (k : Int) (h1 : 1 ≤ p.n) (h2 : p.n ≤ 4) : Ev L f_k35 (p.cells ++ [dI k]) [dB (inB k 0 (p.n - 1))] := by
  refine Ev.eq (vs := [.i p.n, .l (dActs p.acts), .l (dL p.gives), .l (dL p.start), .i k]) L_k35 rfl ?_
  have w1 : IntKind.i64.wrap (p.n - 1) = p.n - 1 := w64 (by omega) (by omega)
  exact WR.ev (ev_in k 0 (p.n - 1)) rfl (by show [dI k, dI 0, dI (IntKind.i64.wrap (p.n - 1))] = _; rw [w1]) rfl (WR.done rfl)
theorem ev_isSite (p : Pln) (k : Int) (hp : fitPln p) : Ev L f_k2i (p.cells ++ [dI k]) [dB (inB k 0 ((p.gives.length : Int) - 1))] := by
  refine Ev.eq (vs := [.i p.n, .l (dActs p.acts), .l (dL p.gives), .l (dL p.start), .i k]) L_k2i rfl ?_
  have w1 : IntKind.i64.wrap (((dL p.gives).length : Int) - 1) = (p.gives.length : Int) - 1 := by rw [dL_len]; exact len_wrap hp.2.1
  exact WR.ev (ev_in k 0 ((p.gives.length : Int) - 1)) rfl (by show [dI k, dI 0, dI (IntKind.i64.wrap (((dL p.gives).length : Int) - 1))] = _; rw [w1]) rfl (WR.done rfl)
theorem ev_callOk (p : Pln) (c : Cal) (hp : fitPln p) (h1 : 1 ≤ p.n) (h2 : p.n ≤ 4) (hc : fitCal c) : Ev L f_k37 (p.cells ++ c.cells) [dB (callOk p c)] := by
  refine Ev.eq (vs := [.i p.n, .l (dActs p.acts), .l (dL p.gives), .l (dL p.start), .i c.client, .i c.seq, .i c.act, .l (dL c.args)]) L_k37 rfl ?_
  have w2 : IntKind.i64.wrap (((dActs p.acts).length : Int) - 1) = (p.acts.length : Int) - 1 := by rw [dActs_len]; exact len_wrap hp.1.1
  refine WR.ev (ev_isClient p c.client h1 h2) rfl rfl rfl ?_
  refine WR.iteB (inB c.client 0 (p.n - 1)) rfl (fun a => ?_) (fun a => WR.done (by show [dB false] = _; simp [callOk, a]))
  refine WR.ev (ev_in c.act 0 ((p.acts.length : Int) - 1)) rfl (by show [dI c.act, dI 0, dI (IntKind.i64.wrap (((dActs p.acts).length : Int) - 1))] = _; rw [w2]) rfl ?_
  refine WR.iteB (inB c.act 0 ((p.acts.length : Int) - 1)) rfl (fun d => ?_) (fun d => WR.done (by show [dB false] = _; simp [callOk, d]))
  refine WR.ev (ev_in c.seq 1 300) rfl rfl rfl ?_
  refine WR.iteB (inB c.seq 1 300) rfl (fun b => ?_) (fun b => WR.done (by show [dB false] = _; simp [callOk, b]))
  refine WR.ev (ev_ArgOk c.args hc) rfl rfl rfl (WR.done ?_)
  show [dB (argOk c.args)] = _
  simp [callOk, a, b, d]
theorem em_dec (n : Nat) {m : Nat} (h : m = n) : decide ((m : Int) = 0) = decide (n = 0) := by subst h; simp
def donOk (d : Don) : Bool := if d.seq = 0 then decide (d.code = 0) && decide (d.tells.length = 0) else inB d.seq 1 300 && resOk d.code d.tells
def doneOk (n : Int) (l : List Don) : Bool := decide ((l.length : Int) = n) && l.all donOk
def seqsOk (n : Int) (l : List Int) : Bool := decide ((l.length : Int) = n) && l.all fun x => inB x 0 300
theorem dDs_len (l : List Don) : (dDs l).length = l.length := by simp [dDs]
theorem ev_seqsOk_1 (x : Int) : Ev L f_k38 [dI x] [dB (!inB x 0 300)] :=
  Ev.eq (vs := [.i x]) L_k38 rfl (WR.ev (ev_in x 0 300) rfl rfl rfl (WR.done rfl))
theorem ev_seqsOk (p : Pln) (l : List Int) (hl : l.length ≤ 2000000) : Ev L f_k39 (p.cells ++ [.s (dL l)]) [dB (seqsOk p.n l)] := by
  refine Ev.eq (vs := [.i p.n, .l (dActs p.acts), .l (dL p.gives), .l (dL p.start), .l (dL l)]) L_k39 rfl ?_
  refine WR.iteP ((l.length : Int) = p.n) (by show decide (((dL l).length : Int) = p.n) = _; rw [dL_len]) (fun h => ?_) (fun h => WR.done (by show [dB false] = _; simp [seqsOk, h]))
  refine WR.ev (ev_hasInt (fun x => !inB x 0 300) l (fn := f_k38) (caps := []) hl rfl rfl fun x _ => ev_seqsOk_1 x) rfl rfl rfl (WR.done ?_)
  show [dB (!(l.any fun x => !inB x 0 300))] = _
  rw [not_any]; simp [seqsOk, h]
theorem ev_donOk (d : Don) (hd : fitDon d) : Ev L f_k30 d.cells [dB (donOk d)] := by
  refine Ev.eq (vs := [.i d.seq, .i d.code, .l (dL d.tells)]) L_k30 rfl ?_
  refine WR.iteP (d.seq = 0) rfl (fun h => ?_) (fun h => ?_)
  · refine WR.ev (ds := [dB (decide (d.code = 0) && decide (d.tells.length = 0))]) (Ev.eq (vs := [.i d.code, .l (dL d.tells)]) L_k2v rfl ?_) rfl rfl rfl (WR.done (by rw [donOk, if_pos h]; rfl))
    refine WR.iteP (d.code = 0) rfl (fun a => WR.done ?_) (fun a => WR.done (by show [dB false] = _; simp [a]))
    show [dB (decide (((dL d.tells).length : Int) = 0))] = _
    rw [em_dec d.tells.length (dL_len _)]
    simp [a]
  · refine WR.ev (ev_in d.seq 1 300) rfl rfl rfl ?_
    refine WR.iteB (inB d.seq 1 300) rfl (fun a => ?_) (fun a => WR.done (by show [dB false] = _; simp [donOk, h, a]))
    refine WR.ev (ev_iResOk d.code d.tells hd) rfl rfl rfl (WR.done ?_)
    show [dB (resOk d.code d.tells)] = _
    simp [donOk, h, a]
theorem ev_doneOk_1 (d : Don) (hd : fitDon d) : Ev L f_k31 d.cells [dB (!donOk d)] :=
  Ev.eq (vs := [.i d.seq, .i d.code, .l (dL d.tells)]) L_k31 rfl (WR.ev (ev_donOk d hd) rfl rfl rfl (WR.done rfl))
theorem ev_hasDon (q : Don → Bool) (l : List Don) {fn : FuncId} {caps : List D} (hlen : l.length ≤ 2000000) (hcap : oneOf (.f fn caps) = .f fn caps) (har : arT L fn = some ([some 3] ++ caps.map fun _ => none))
    (hc : ∀ x ∈ l, Ev L fn (x.cells ++ caps.map D.norm) [dB (q x)]) : Ev L f_k2u [.s (dDs l), .f fn caps] [dB (l.any q)] :=
  ev_contains (g := f_k2t) L_k2u rfl hcap
    (ev_idxFunc (sh := .g [.i .i64, .i .i64, .s]) (as := [(.vi .i64 (.v 3)), (.vi .i64 (.v 4)), (.s (.v 5))]) (ar := [some 3]) (k := 6) Don.g q Don.cells (fun x => [.i x.seq, .i x.code, .l (dL x.tells)]) l
      L_k2t rfl hlen hcap (fun _ _ => rfl) (fun _ _ => rfl) (fun _ _ _ _ => rfl) har hc)
theorem ev_doneOk (p : Pln) (l : List Don) (hl : fitL fitDon l) : Ev L f_k32 (p.cells ++ [.s (dDs l)]) [dB (doneOk p.n l)] := by
  refine Ev.eq (vs := [.i p.n, .l (dActs p.acts), .l (dL p.gives), .l (dL p.start), .l (dDs l)]) L_k32 rfl ?_
  refine WR.iteP ((l.length : Int) = p.n) (by show decide (((dDs l).length : Int) = p.n) = _; rw [dDs_len]) (fun h => ?_) (fun h => WR.done (by show [dB false] = _; simp [doneOk, h]))
  refine WR.ev (ev_hasDon (fun d => !donOk d) l (fn := f_k31) (caps := []) hl.1 rfl rfl fun x hx => by simpa using ev_doneOk_1 x (hl.2 x hx)) rfl rfl rfl (WR.done ?_)
  show [dB (!(l.any fun d => !donOk d))] = _
  rw [not_any]; simp [doneOk, h]
end Go.Proofs.YtdibnlhlngodeaaGreatDoor
