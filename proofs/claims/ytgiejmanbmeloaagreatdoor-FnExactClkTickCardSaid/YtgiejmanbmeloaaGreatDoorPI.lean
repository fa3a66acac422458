import Derived.Test.YtgiejmanbmeloaaGreatDoorR
import Derived.Test.YtgiejmanbmeloaaGreatDoorTd
set_option linter.unusedVariables false
set_option linter.unusedSimpArgs false
/- What the draws come to: a reader's picks,and what is drawn by them. -/
namespace Go.Proofs.YtgiejmanbmeloaaGreatDoor
open Go Go.Tm
end Go.Proofs.YtgiejmanbmeloaaGreatDoor
/- What draws of numbers come to. -/
namespace Go.Proofs.YtgiejmanbmeloaaGreatDoor
open Go Go.Tm
end Go.Proofs.YtgiejmanbmeloaaGreatDoor
/- What draws of treaties,of what sites have added,of forms and lines come to. -/
namespace Go.Proofs.YtgiejmanbmeloaaGreatDoor
open Go Go.Tm
end Go.Proofs.YtgiejmanbmeloaaGreatDoor
/- What says whether forms,lines,acts are ok. -/
namespace Go.Proofs.YtgiejmanbmeloaaGreatDoor
open Go Go.Tm
theorem ev_l1In (n a b : Int) : Ev L f_ks [dI n,dI a,dI b] [dB (inB n a b)] := by
  refine Ev.eq (vs := [.i n,.i a,.i b]) L_ks rfl ?_
  refine WR.iteP (a ≤ n) rfl (fun h => WR.done ?_) (fun h => WR.done ?_)
  · show [dB (decide (n ≤ b))] = _
    simp [inB,h]
  · show [dB false] = _
    simp [inB,h]
theorem ev_l1All (l : List Int) (n m : Int) (hl : l.length ≤ 2000000) (h0 : 0 ≤ m) (hm : m ≤ 10000000000000) : Ev L f_kt [.s (dL l),dI n,dI m] [dB (allIn n m l)] := by
  refine Ev.eq (vs := [.l (dL l),.i n,.i m]) L_kt rfl ?_
  have c0 : bol (envL [V.l (dL l),V.i n,V.i m]) (.not (.cmp .eq (.len (.v 0)) (.v 1))) = decide (¬ (l.length : Int) = n) := by
    simp [bol,den,V.bool,V.int,V.lst,CO.sem,envL,dL1]
  refine WR.iteP (¬ (l.length : Int) = n) c0 (fun h => WR.done ?_) (fun h => ?_)
  · show [dB false] = _
    simp [allIn,h]
  have h : (l.length : Int) = n := by omega
  refine WR.loop (fun k vs => ∃ i : Int,vs = [.i i] ∧ 0 ≤ i ∧ i ≤ l.length ∧ (k : Int) = l.length - i ∧ (l.take i.toNat).all (fun x => inB x (0 - m) m) = true) rfl l.length ⟨0,rfl,by omega,by omega,by omega,by simp⟩ ?_
  rintro k _ ⟨i,rfl,i0,i1,hk,ha⟩
  refine WR.iteP (i < ((dL l).length : Int)) rfl (fun hi => ?_) (fun hi => ?_)
  · rw [dL1] at hi
    refine WR.idxA (ds := dL l) i rfl rfl rfl i0 (dL_get i0 hi) rfl ?_
    have hx : l[i.toNat]? = some (l.getD i.toNat 0) := by simp [List.getD_eq_getElem?_getD,show i.toNat < l.length by omega]
    generalize l.getD i.toNat 0 = x at *
    refine WR.callA (args := [dI x,dI (0 - m),dI m]) rfl ?_ (ev_l1In x (0 - m) m) rfl ?_
    · show [dI x,dI (IntKind.i64.wrap (0 - m)),dI m] = _
      rw [w64 (by omega) (by omega)]
    refine WR.iteP (inB x (0 - m) m = false) ?_ (fun hb => ?_) (fun hb => ?_)
    · show (!(inB x (0 - m) m)) = _
      cases inB x (0 - m) m <;> rfl
    · refine WR.esc (WR.done ?_)
      show [dB false] = _
      have hna : l.all (fun x => inB x (0 - m) m) = false := all_not (p := fun x => inB x (0 - m) m) hx hb
      simp only [allIn,hna]; simp
    · refine WR.nextA (vs := [.i (i + 1)]) ?_ ⟨k - 1,by omega,i + 1,rfl,by omega,by omega,by omega,?_⟩
      · show [V.i (IntKind.i64.wrap (i + 1))] = _
        rw [w64 (by omega) (by omega)]
      · rw [show (i + 1).toNat = i.toNat + 1 by omega]
        exact all_take hx ha (by simpa using hb)
  · rw [dL1] at hi
    refine WR.esc (WR.done ?_)
    show [dB true] = _
    rw [List.take_of_length_le (by omega)] at ha
    simp only [allIn,h,ha]; simp
def Frm.fit (f : Frm) : Prop := f.c.length ≤ 2000000 ∧ f.d.length ≤ 2000000
theorem ev_l2Small (f : Frm) (hf : Frm.fit f) : Ev L f_ku f.cells [dB f.small] := by
  refine Ev.eq (vs := [.l (dL f.c),.l (dL f.d),.i f.k]) L_ku rfl ?_
  refine WR.callA (args := [.s (dL f.c),dI 3,dI 2]) rfl rfl (ev_l1All f.c 3 2 hf.1 (by omega) (by omega)) rfl ?_
  refine WR.iteB (allIn 3 2 f.c) rfl (fun h => ?_) (fun h => WR.done ?_)
  · refine WR.callA (args := [.s (dL f.d),dI 2,dI 2]) rfl rfl (ev_l1All f.d 2 2 hf.2 (by omega) (by omega)) rfl ?_
    refine WR.iteB (allIn 2 2 f.d) rfl (fun h2 => ?_) (fun h2 => WR.done ?_)
    · refine WR.callA (args := [dI f.k,dI (-20),dI 20]) rfl rfl (ev_l1In _ _ _) rfl ?_
      refine WR.done ?_
      show [dB (inB f.k (-20) 20)] = _
      simp [Frm.small,h,h2]
    · show [dB false] = _
      simp [Frm.small,h,h2]
  · show [dB false] = _
    simp [Frm.small,h]
theorem ev_FrmOk (f : Frm) (hf : Frm.fit f) : Ev L f_k15 f.cells [dB f.ok] := by
  refine Ev.eq (vs := [.l (dL f.c),.l (dL f.d),.i f.k]) L_k15 rfl ?_
  refine WR.callA (args := [.s (dL f.c),dI 3,dI 10000000]) rfl rfl (ev_l1All f.c 3 10000000 hf.1 (by omega) (by omega)) rfl ?_
  refine WR.iteB (allIn 3 10000000 f.c) rfl (fun h => ?_) (fun h => WR.done ?_)
  · refine WR.callA (args := [.s (dL f.d),dI 2,dI 10000000]) rfl rfl (ev_l1All f.d 2 10000000 hf.2 (by omega) (by omega)) rfl ?_
    refine WR.iteB (allIn 2 10000000 f.d) rfl (fun h2 => ?_) (fun h2 => WR.done ?_)
    · refine WR.callA (args := [dI f.k,dI (-10000000),dI 10000000]) rfl rfl (ev_l1In _ _ _) rfl ?_
      refine WR.done ?_
      show [dB (inB f.k (-10000000) 10000000)] = _
      simp [Frm.ok,h,h2]
    · show [dB false] = _
      simp [Frm.ok,h,h2]
  · show [dB false] = _
    simp [Frm.ok,h]
theorem ev_l2Line (l : Line) (hf : Frm.fit l.f) : Ev L f_kv l.cells [dB l.ok] := by
  refine Ev.eq (vs := [.i l.kind,.i l.pot,.i l.skip,.l (dL l.f.c),.l (dL l.f.d),.i l.f.k]) L_kv rfl ?_
  refine WR.iteP (l.kind = 1) rfl (fun h1 => ?_) (fun h1 => ?_)
  · refine WR.iteP (l.pot = 0) rfl (fun h2 => ?_) (fun h2 => WR.done ?_)
    · refine WR.callA (args := [dI l.skip,dI 1,dI 6]) rfl rfl (ev_l1In _ _ _) rfl ?_
      refine WR.iteB (inB l.skip 1 6) rfl (fun h3 => ?_) (fun h3 => WR.done ?_)
      · refine WR.callA (args := l.f.cells) rfl rfl (ev_l2Small l.f hf) rfl (WR.done ?_)
        show [dB l.f.small] = _
        simp [Line.ok,h1,h2,h3]
      · show [dB false] = _
        simp [Line.ok,h1,h2,h3]
    · show [dB false] = _
      simp [Line.ok,h1,h2]
  refine WR.iteP (l.kind = 2) rfl (fun h2 => ?_) (fun h2 => ?_)
  · refine WR.callA (args := [dI l.pot,dI 0,dI 2]) rfl rfl (ev_l1In _ _ _) rfl ?_
    refine WR.iteB (inB l.pot 0 2) rfl (fun h3 => ?_) (fun h3 => WR.done ?_)
    · refine WR.iteP (l.skip = 0) rfl (fun h4 => ?_) (fun h4 => WR.done ?_)
      · refine WR.callA (args := l.f.cells) rfl rfl (ev_l2Small l.f hf) rfl (WR.done ?_)
        show [dB l.f.small] = _
        simp [Line.ok,h2,h3,h4]
      · show [dB false] = _
        simp [Line.ok,h2,h3,h4]
    · show [dB false] = _
      simp [Line.ok,h2,h3]
  refine WR.iteP (l.kind = 3) rfl (fun h3 => ?_) (fun h3 => ?_)
  · refine WR.iteP (l.pot = 0) rfl (fun h4 => ?_) (fun h4 => WR.done ?_)
    · refine WR.iteP (l.skip = 0) rfl (fun h5 => ?_) (fun h5 => WR.done ?_)
      · refine WR.callA (args := l.f.cells) rfl rfl (ev_l2Small l.f hf) rfl (WR.done ?_)
        show [dB l.f.small] = _
        simp [Line.ok,h3,h4,h5]
      · show [dB false] = _
        simp [Line.ok,h3,h4,h5]
    · show [dB false] = _
      simp [Line.ok,h3,h4]
  refine WR.iteP (l.kind = 4) rfl (fun h4 => ?_) (fun h4 => WR.done ?_)
  · refine WR.iteP (l.pot = 0) rfl (fun h5 => ?_) (fun h5 => WR.done ?_)
    · refine WR.iteP (l.skip = 0) rfl (fun h6 => ?_) (fun h6 => WR.done ?_)
      · have hw : IntKind.i64.wrap (((dL l.f.c).length : Int) + (dL l.f.d).length) = l.f.c.length + l.f.d.length := by
          rw [dL1,dL1]; have := hf.1; have := hf.2; exact w64 (by omega) (by omega)
        refine WR.iteP (((l.f.c.length : Int) + l.f.d.length) = 0) ?_ (fun h7 => WR.done ?_) (fun h7 => WR.done ?_)
        · show decide (IntKind.i64.wrap (((dL l.f.c).length : Int) + (dL l.f.d).length) = 0) = _
          rw [hw]
        · show [dB (decide (l.f.k = 0))] = _
          simp only [Line.ok,h4,h5,h6,h7]; simp
        · show [dB false] = _
          simp only [Line.ok,h4,h5,h6,h7]; simp
      · show [dB false] = _
        simp [Line.ok,h4,h5,h6]
    · show [dB false] = _
      simp [Line.ok,h4,h5]
  · show [dB false] = _
    simp [Line.ok,h1,h2,h3,h4]
def fitAct (a : List Line) : Prop := a.length ≤ 2000000 ∧ ∀ l ∈ a,Frm.fit l.f
theorem dAct_get {a : List Line} {i : Int} (h0 : 0 ≤ i) (h1 : i < a.length) : ∃ x,a[i.toNat]? = some x ∧ (dAct a)[i.toNat]? = some x.g := map_get h0 h1
theorem ev_ActOk (a : List Line) (ha : fitAct a) : Ev L f_kw [.s (dAct a)] [dB (actOk a)] := by
  have hlen := ha.1
  refine Ev.eq (vs := [.l (dAct a)]) L_kw rfl ?_
  refine WR.loop (fun k vs => ∃ i : Int,vs = [.i (tests (a.take i.toNat)),.i i] ∧ 0 ≤ i ∧ i ≤ a.length ∧ (k : Int) = a.length - i ∧ (a.take i.toNat).all Line.ok = true) rfl a.length ⟨0,rfl,by omega,by omega,by omega,by simp⟩ ?_
  rintro k _ ⟨i,rfl,i0,i1,hk,hal⟩
  have htl : tests (a.take i.toNat) ≤ a.length := Nat.le_trans List.countP_le_length (by simp; omega)
  refine WR.iteP (i < ((dAct a).length : Int)) rfl (fun hi => ?_) (fun hi => ?_)
  · rw [dAct_len] at hi
    obtain ⟨x,hx,hd⟩ := dAct_get i0 hi
    have hfx := ha.2 x (List.mem_of_getElem? hx)
    refine WR.idxA (ds := dAct a) i rfl rfl rfl i0 hd rfl ?_
    refine WR.callA (args := x.cells) rfl rfl (ev_l2Line x hfx) rfl ?_
    refine WR.iteP (x.ok = false) ?_ (fun hb => ?_) (fun hb => ?_)
    · show (!x.ok) = _
      cases x.ok <;> rfl
    · refine WR.esc (WR.done ?_)
      show [dB false] = _
      simp [actOk,all_not hx hb]
    · have hb : x.ok = true := by simpa using hb
      refine WR.idxA (ds := dAct a) i rfl rfl rfl i0 hd rfl ?_
      have ht : tests (a.take (i + 1).toNat) = tests (a.take i.toNat) + if x.kind = 1 then 1 else 0 := by
        rw [show (i + 1).toNat = i.toNat + 1 by omega,tS1 hx]
        simp [tests,List.countP_append,List.countP_cons]
      have hal' : (a.take (i + 1).toNat).all Line.ok = true := by
        rw [show (i + 1).toNat = i.toNat + 1 by omega]; exact all_take hx hal hb
      refine WR.iteP (x.kind = 1) rfl (fun h1 => ?_) (fun h1 => ?_)
      · refine WR.nextA (vs := [.i (tests (a.take (i + 1).toNat)),.i (i + 1)]) ?_ ⟨k - 1,by omega,i + 1,rfl,by omega,by omega,by omega,hal'⟩
        show [V.i (IntKind.i64.wrap ((tests (a.take i.toNat) : Int) + 1)),V.i (IntKind.i64.wrap (i + 1))] = _
        rw [w64 (n := i + 1) (by omega) (by omega),w64 (by omega) (by omega),ht,if_pos h1]; rfl
      · refine WR.nextA (vs := [.i (tests (a.take (i + 1).toNat)),.i (i + 1)]) ?_ ⟨k - 1,by omega,i + 1,rfl,by omega,by omega,by omega,hal'⟩
        show [V.i (tests (a.take i.toNat) : Int),V.i (IntKind.i64.wrap (i + 1))] = _
        rw [w64 (n := i + 1) (by omega) (by omega),ht,if_neg h1]; rfl
  · rw [dAct_len] at hi
    rw [List.take_of_length_le (by omega)] at hal htl ⊢
    refine WR.esc ?_
    refine WR.iteP (((dAct a).length : Int) ≤ 6) rfl (fun h6 => WR.done ?_) (fun h6 => WR.done ?_)
    · rw [dAct_len] at h6
      show [dB (decide ((tests a : Int) ≤ 3))] = _
      simp only [actOk,hal,h6]; simp
    · rw [dAct_len] at h6
      show [dB false] = _
      simp only [actOk,h6]; simp
end Go.Proofs.YtgiejmanbmeloaaGreatDoor
/- What draws of forms,lines,acts come to. -/
namespace Go.Proofs.YtgiejmanbmeloaaGreatDoor
open Go Go.Tm
theorem ev_FrmZero : Ev L f_k11 [] Frm.zero.cells := Ev.eq (vs := []) L_k11 rfl (WR.done rfl)
def slim (l : Line) : Prop := l.f.c.length ≤ 3 ∧ l.f.d.length ≤ 2
end Go.Proofs.YtgiejmanbmeloaaGreatDoor
/- What draws of acts come to. -/
namespace Go.Proofs.YtgiejmanbmeloaaGreatDoor
open Go Go.Tm
def slimA (a : List Line) : Prop := a.length ≤ 5 ∧ (∀ l ∈ a,slim l) ∧ actOk a = true
theorem slimA.fit {a : List Line} (h : slimA a) : fitAct a := ⟨by have := h.1; omega,fun l hl => ⟨by have := (h.2.1 l hl).1; omega,by have := (h.2.1 l hl).2; omega⟩⟩
def slimAs (as : List (List Line)) : Prop := as.length ≤ 4 ∧ ∀ a ∈ as,slimA a
end Go.Proofs.YtgiejmanbmeloaaGreatDoor
/- What sums of forms and the ways through an act come to: the reference's. -/
namespace Go.Proofs.YtgiejmanbmeloaaGreatDoor
open Go Go.Tm
theorem wrapsum {x y n M N : Int} (hx : -M ≤ x ∧ x ≤ M) (hy : -M ≤ y ∧ y ≤ M) (hn : -N ≤ n ∧ n ≤ N) (hM : M ≤ 1000000000) (hN : N ≤ 1000000000) : IntKind.i64.wrap (x + IntKind.i64.wrap (n * y)) = x + n * y := by
  have h := mul_lim (A := 1000000000) (B := 1000000000) (n := n) (y := y) (by omega) (by omega)
  rw [w64 (n := n * y) (by omega) (by omega),w64 (by omega) (by omega)]
theorem ev_l1Sum {a b : Frm} {n M : Int} (ha : Std M a) (hb : Std M b) (hM : M ≤ 1000000000) (hn : -1000000000 ≤ n ∧ n ≤ 1000000000) :
    Ev L f_k13 (a.cells ++ b.cells ++ [dI n]) (sumF a b n).cells := by
  refine Ev.eq (vs := [.l (dL a.c),.l (dL a.d),.i a.k,.l (dL b.c),.l (dL b.d),.i b.k,.i n]) L_k13 rfl ?_
  refine WR.callA (args := []) rfl rfl ev_FrmZero rfl ?_
  have hc := ha.c
  have hc' := hb.c
  have hd := ha.d
  have hd' := hb.d
  have hS : (addL a.c b.c n).length = 3 := by rw [addL_len]; omega
  have hT : (addL a.d b.d n).length = 2 := by rw [addL_len]; omega
  refine WR.loop (fun m vs => ∃ i : Nat,i ≤ 3 ∧ m = 3 - i ∧ vs = [.l (dL ((addL a.c b.c n).take i ++ ([0,0,0] : List Int).drop i)),.i i]) rfl 3 ⟨0,by omega,rfl,rfl⟩ ?_
  rintro m _ ⟨i,hi,hm,rfl⟩
  refine WR.iteP ((i : Int) < 3) rfl (fun h => ?_) (fun h => ?_)
  · refine WR.idxA (ds := dL a.c) i rfl rfl rfl (by omega) (dL_get (by omega) (by omega)) rfl ?_
    refine WR.idxA (ds := dL b.c) i rfl rfl rfl (by omega) (dL_get (by omega) (by omega)) rfl ?_
    refine WR.chkP ((0 : Int) ≤ i) rfl (by omega) ?_
    have hlen : ((addL a.c b.c n).take i ++ ([0,0,0] : List Int).drop i).length = 3 := by simp [hS]; omega
    refine WR.chkP ((i : Int) < ((dL ((addL a.c b.c n).take i ++ ([0,0,0] : List Int).drop i)).length : Int)) rfl (by rw [dL1,hlen]; omega) ?_
    refine WR.idxA (ds := dL ((addL a.c b.c n).take i ++ ([0,0,0] : List Int).drop i)) i rfl rfl rfl (by omega) (dL_get (by omega) (by omega)) rfl ?_
    refine WR.nextA (vs := [.l (dL ((addL a.c b.c n).take (i + 1) ++ ([0,0,0] : List Int).drop (i + 1))),.i ((i + 1 : Nat) : Int)]) ?_ ⟨m - 1,by omega,i + 1,by omega,by omega,rfl⟩
    show [V.l ((dL ((addL a.c b.c n).take i ++ ([0,0,0] : List Int).drop i)).set (i : Int).toNat (dI (IntKind.i64.wrap (a.c.getD (i : Int).toNat 0 + IntKind.i64.wrap (n * b.c.getD (i : Int).toNat 0))))),V.i (IntKind.i64.wrap ((i : Int) + 1))] = _
    have hx := getD_in ha.lc (k := (i : Int).toNat) (by omega)
    have hy := getD_in hb.lc (k := (i : Int).toNat) (by omega)
    rw [wrapsum hx hy hn hM (by omega),dL_set,Int.toNat_natCast,fill (by rw [hS]; rfl),w64 (by omega) (by omega)]
    · rfl
    · exact addL_get (by omega) (by omega)
  refine WR.esc ?_
  have hi3 : i = 3 := by omega
  subst hi3
  rw [List.take_of_length_le (by omega),show ([0,0,0] : List Int).drop 3 = [] from rfl,List.append_nil]
  refine WR.loop (fun m vs => ∃ i : Nat,i ≤ 2 ∧ m = 2 - i ∧ vs = [.l (dL ((addL a.d b.d n).take i ++ ([0,0] : List Int).drop i)),.i i]) rfl 2 ⟨0,by omega,rfl,rfl⟩ ?_
  rintro m _ ⟨i,hi,hm,rfl⟩
  refine WR.iteP ((i : Int) < 2) rfl (fun h => ?_) (fun h => ?_)
  · refine WR.idxA (ds := dL a.d) i rfl rfl rfl (by omega) (dL_get (by omega) (by omega)) rfl ?_
    refine WR.idxA (ds := dL b.d) i rfl rfl rfl (by omega) (dL_get (by omega) (by omega)) rfl ?_
    refine WR.chkP ((0 : Int) ≤ i) rfl (by omega) ?_
    have hlen : ((addL a.d b.d n).take i ++ ([0,0] : List Int).drop i).length = 2 := by simp [hT]; omega
    refine WR.chkP ((i : Int) < ((dL ((addL a.d b.d n).take i ++ ([0,0] : List Int).drop i)).length : Int)) rfl (by rw [dL1,hlen]; omega) ?_
    refine WR.idxA (ds := dL ((addL a.d b.d n).take i ++ ([0,0] : List Int).drop i)) i rfl rfl rfl (by omega) (dL_get (by omega) (by omega)) rfl ?_
    refine WR.nextA (vs := [.l (dL ((addL a.d b.d n).take (i + 1) ++ ([0,0] : List Int).drop (i + 1))),.i ((i + 1 : Nat) : Int)]) ?_ ⟨m - 1,by omega,i + 1,by omega,by omega,rfl⟩
    show [V.l ((dL ((addL a.d b.d n).take i ++ ([0,0] : List Int).drop i)).set (i : Int).toNat (dI (IntKind.i64.wrap (a.d.getD (i : Int).toNat 0 + IntKind.i64.wrap (n * b.d.getD (i : Int).toNat 0))))),V.i (IntKind.i64.wrap ((i : Int) + 1))] = _
    have hx := getD_in ha.ld (k := (i : Int).toNat) (by omega)
    have hy := getD_in hb.ld (k := (i : Int).toNat) (by omega)
    rw [wrapsum hx hy hn hM (by omega),dL_set,Int.toNat_natCast,fill (by rw [hT]; rfl),w64 (by omega) (by omega)]
    · rfl
    · exact addL_get (by omega) (by omega)
  refine WR.esc ?_
  have hi2 : i = 2 := by omega
  subst hi2
  rw [List.take_of_length_le (by omega),show ([0,0] : List Int).drop 2 = [] from rfl,List.append_nil]
  refine WR.done ?_
  show [D.s (dL (addL a.c b.c n)),.s (dL (addL a.d b.d n)),dI (IntKind.i64.wrap (a.k + IntKind.i64.wrap (n * b.k)))] = _
  rw [wrapsum ha.k hb.k hn hM (by omega)]; rfl
theorem ev_FrmPot (v : Int) (h0 : 0 ≤ v) (h2 : v ≤ 2) : Ev L f_k12 [dI v] (potF v.toNat).cells := by
  refine Ev.eq (vs := [.i v]) L_k12 rfl ?_
  refine WR.callA (args := [dI v,dI 0,dI 2]) rfl rfl (ev_l1In v 0 2) rfl ?_
  refine WR.iteF (by show (!(inB v 0 2)) = false; simp [inB,h0,h2]) ?_
  refine WR.callA (args := []) rfl rfl ev_FrmZero rfl ?_
  refine WR.chkP (0 ≤ v) rfl h0 ?_
  refine WR.chkP (v < 3) rfl (by omega) ?_
  refine WR.idxA (ds := dL [0,0,0]) v rfl rfl rfl h0 (dL_get h0 (by simp; omega)) rfl ?_
  refine WR.done ?_
  show [D.s ((dL [0,0,0]).set v.toNat (dI 1)),.s (dL [0,0]),dI 0] = _
  rw [dL_set]; rfl
theorem ev_l3Copy {l : List Frm} {M : Int} (hl : l.length ≤ 2000000) (hs : ∀ f ∈ l,Std M f) (h0 : 0 ≤ M) (hM : M ≤ 1000000000) : Ev L f_k14 [.s (dF l)] [.s (dF l)] := by
  refine Ev.eq (vs := [.l (dF l)]) L_k14 rfl ?_
  refine WR.loop (fun m vs => ∃ i : Int,0 ≤ i ∧ i ≤ l.length ∧ (m : Int) = l.length - i ∧ vs = [.l (dF (l.take i.toNat)),.i i]) rfl l.length ⟨0,by omega,by omega,by omega,rfl⟩ ?_
  rintro m _ ⟨i,i0,i1,hm,rfl⟩
  refine WR.iteP (i < ((dF l).length : Int)) rfl (fun hi => ?_) (fun hi => ?_)
  · rw [dF_len] at hi
    refine WR.callA (args := []) rfl rfl ev_FrmZero rfl ?_
    obtain ⟨x,hx,hd⟩ := dF_get i0 hi
    have hsx := hs x (List.mem_of_getElem? hx)
    refine WR.idxA (ds := dF l) i rfl rfl rfl i0 hd rfl ?_
    have e := ev_l1Sum (zero_std.mono h0) hsx hM (n := 1) (by omega)
    rw [sumF_zero hsx] at e
    refine WR.callA (args := Frm.zero.cells ++ x.cells ++ [dI 1]) rfl rfl e rfl ?_
    refine WR.chkLen (dF (l.take i.toNat) ++ [x.g]) rfl (by rw [dF_snoc,dF_len]; simp; omega) ?_
    refine WR.nextA (vs := [.l (dF (l.take (i + 1).toNat)),.i (i + 1)]) ?_ ⟨m - 1,by omega,i + 1,by omega,by omega,by omega,rfl⟩
    show [V.l (dF (l.take i.toNat) ++ [x.g]),V.i (IntKind.i64.wrap (i + 1))] = _
    rw [dF_snoc,show (i + 1).toNat = i.toNat + 1 by omega,tS1 hx,w64 (by omega) (by omega)]
  · rw [dF_len] at hi
    refine WR.esc (WR.done ?_)
    show [D.s (dF (l.take i.toNat))] = _
    rw [List.take_of_length_le (by omega)]
theorem ev_l3Minus {f : Frm} {M : Int} (hf : Std M f) (h0 : 0 ≤ M) (hM : M ≤ 100000000) : Ev L f_k17 f.cells (minusF f).cells := by
  refine Ev.eq (vs := [.l (dL f.c),.l (dL f.d),.i f.k]) L_k17 rfl ?_
  refine WR.callA (args := []) rfl rfl ev_FrmZero rfl ?_
  refine WR.callA (args := Frm.zero.cells ++ f.cells ++ [dI (-1)]) rfl rfl (ev_l1Sum (zero_std.mono h0) hf (by omega) (by omega)) rfl ?_
  refine WR.done ?_
  have hk := (sumF_std zero_std hf (n := -1) (N := 1) (by omega)).k
  show [D.s (dL (sumF Frm.zero f (-1)).c),.s (dL (sumF Frm.zero f (-1)).d),dI (IntKind.i64.wrap ((sumF Frm.zero f (-1)).k - 1))] = _
  rw [w64 (by omega) (by omega)]; rfl
theorem ev_FrmInto {f : Frm} {pots : List Frm} {M : Int} (hf : f.small = true) (hl : pots.length = 3) (hp : ∀ p ∈ pots,Std M p) (h0 : 0 ≤ M) (hM : M ≤ 1000000) :
    Ev L f_k16 (f.cells ++ [.s (dF pots)]) (intoF f pots).cells := by
  obtain ⟨f1,f2,f3,f4,f5⟩ := small_std hf
  have hfs := small_Std hf
  refine Ev.eq (vs := [.l (dL f.c),.l (dL f.d),.i f.k,.l (dF pots)]) L_k16 rfl ?_
  have ok : ∀ g : Frm,Std (20 + 6 * M) g → Ev L f_k15 g.cells [dB true] := fun g hg => by
    have := ev_FrmOk g hg.fit
    rwa [hg.okF (by omega)] at this
  refine WR.callA (args := f.cells) rfl rfl (ok f (hfs.mono (by omega))) rfl ?_
  refine WR.iteF rfl ?_
  have c0 : bol (envL ([V.l (dL f.c),V.l (dL f.d),V.i f.k,V.l (dF pots)] ++ [V.b true])) (.not (.cmp .eq (.len (.v 3)) (.z 3))) = decide (¬ (pots.length : Int) = 3) := by
    simp [bol,den,V.bool,V.int,V.lst,CO.sem,envL,dF_len]
  refine WR.iteP (¬ (pots.length : Int) = 3) c0 (fun h => by omega) (fun _ => ?_)
  obtain ⟨p0,h00,d0⟩ := dF_get (l := pots) (i := 0) (by omega) (by omega)
  obtain ⟨p1,h11,d1⟩ := dF_get (l := pots) (i := 1) (by omega) (by omega)
  obtain ⟨p2,h22,d2⟩ := dF_get (l := pots) (i := 2) (by omega) (by omega)
  refine WR.idxA (ds := dF pots) 0 rfl rfl rfl (by omega) d0 rfl ?_
  refine WR.callA (args := p0.cells) rfl rfl (ok p0 ((hp p0 (List.mem_of_getElem? h00)).mono (by omega))) rfl ?_
  refine WR.iteF rfl ?_
  refine WR.idxA (ds := dF pots) 1 rfl rfl rfl (by omega) d1 rfl ?_
  refine WR.callA (args := p1.cells) rfl rfl (ok p1 ((hp p1 (List.mem_of_getElem? h11)).mono (by omega))) rfl ?_
  refine WR.iteF rfl ?_
  refine WR.idxA (ds := dF pots) 2 rfl rfl rfl (by omega) d2 rfl ?_
  refine WR.callA (args := p2.cells) rfl rfl (ok p2 ((hp p2 (List.mem_of_getElem? h22)).mono (by omega))) rfl ?_
  refine WR.iteF rfl ?_
  refine WR.chkLen (dL f.d) rfl (by rw [dL1]; omega) ?_
  refine WR.head (by show headOk 1 (dL f.d) = true; cases f.d <;> rfl) ?_
  refine WR.chkLen (dL f.d) rfl (by rw [dL1]; omega) ?_
  let acc : Nat → Frm := fun i => (List.zip (pots.take i) (f.c.take i)).foldl (fun x q => sumF x q.1 q.2) ⟨[0,0,0],f.d,f.k⟩
  have hacc : ∀ i,i ≤ 3 → Std (20 + 6 * M) (acc i) := fun i hi => by
    rcases into_steps hf hp h0 i hi with h | h
    · refine h.mono ?_
      have : 2 * M * (i : Int) ≤ 2 * M * 3 := Int.mul_le_mul_of_nonneg_left (by omega) (by omega)
      omega
    · omega
  refine WR.loop (fun m vs => ∃ i : Nat,i ≤ 3 ∧ m = 3 - i ∧ vs = [.l (dL (acc i).c),.l (dL (acc i).d),.i i,.i (acc i).k]) rfl 3 ⟨0,by omega,rfl,rfl⟩ ?_
  rintro m _ ⟨i,hi,hm,rfl⟩
  refine WR.iteP ((i : Int) < 3) rfl (fun h => ?_) (fun h => ?_)
  · obtain ⟨x,hx,hd⟩ := dF_get (l := pots) (i := (i : Int)) (by omega) (by omega)
    have hsx := hp x (List.mem_of_getElem? hx)
    refine WR.idxA (ds := dF pots) i rfl rfl rfl (by omega) hd rfl ?_
    refine WR.idxA (ds := dL f.c) i rfl rfl rfl (by omega) (dL_get (by omega) (by omega)) rfl ?_
    have hy := getD_in f3 (k := (i : Int).toNat) (by omega)
    have hn : acc (i + 1) = sumF (acc i) x (f.c.getD (i : Int).toNat 0) := by
      rw [Int.toNat_natCast] at hx
      have e2 : f.c[i]? = some (f.c.getD (i : Int).toNat 0) := by simp [List.getD_eq_getElem?_getD,show i < f.c.length by omega]
      simp only [acc]
      rw [tS1 hx,tS1 e2,List.zip_append (by simp; omega),List.foldl_append]; rfl
    refine WR.callA (args := (acc i).cells ++ x.cells ++ [dI (f.c.getD (i : Int).toNat 0)]) rfl rfl (ev_l1Sum (hacc i hi) (hsx.mono (by omega)) (by omega) (by omega)) rfl ?_
    refine WR.nextA (vs := [.l (dL (acc (i + 1)).c),.l (dL (acc (i + 1)).d),.i ((i + 1 : Nat) : Int),.i (acc (i + 1)).k]) ?_ ⟨m - 1,by omega,i + 1,by omega,by omega,rfl⟩
    rw [hn]
    show [V.l _,V.l _,V.i (IntKind.i64.wrap ((i : Int) + 1)),V.i _] = _
    rw [w64 (by omega) (by omega)]; rfl
  refine WR.esc ?_
  have hi3 : i = 3 := by omega
  subst hi3
  refine WR.callA (args := (acc 3).cells) rfl rfl (ok _ (hacc 3 (by omega))) rfl ?_
  refine WR.iteF rfl ?_
  refine WR.done ?_
  show (acc 3).cells = _
  simp only [acc]
  rw [List.take_of_length_le (by omega),List.take_of_length_le (by omega)]; rfl
end Go.Proofs.YtgiejmanbmeloaaGreatDoor
/- What the reference's ways through an act come to. -/
namespace Go.Proofs.YtgiejmanbmeloaaGreatDoor
open Go Go.Tm
theorem getD_mem {l : List Frm} {i : Nat} (h : i < l.length) : l.getD i Frm.none ∈ l ∧ l[i]? = some (l.getD i Frm.none) := by
  rw [List.getD_eq_getElem?_getD,List.getElem?_eq_getElem h]
  exact ⟨List.getElem_mem h,rfl⟩
def addsOf (p : List Frm) : List Frm := [sumF (p.getD 0 Frm.none) (potF 0) (-1),sumF (p.getD 1 Frm.none) (potF 1) (-1),sumF (p.getD 2 Frm.none) (potF 2) (-1)]
theorem ev_l3Row {p g t : List Frm} {M : Int} (hp : p.length = 3) (sp : ∀ f ∈ p,Std M f) (hg : g.length ≤ 2000000) (sg : ∀ f ∈ g,Std M f) (ht : t.length ≤ 2000000) (st : ∀ f ∈ t,Std M f) (h0 : 1 ≤ M) (hM : M ≤ 1000000000) :
    Ev L f_k18 [.s (dF p),.s (dF g),.s (dF t)] (rowEnd p g t).cells := by
  refine Ev.eq (vs := [.l (dF p),.l (dF g),.l (dF t)]) L_k18 rfl ?_
  refine WR.callA (args := [.s (dF g)]) rfl rfl (ev_l3Copy hg sg (by omega) hM) rfl ?_
  refine WR.callA (args := [.s (dF t)]) rfl rfl (ev_l3Copy ht st (by omega) hM) rfl ?_
  refine WR.loop (fun m vs => ∃ i : Nat,i ≤ 3 ∧ m = 3 - i ∧ vs = [.l (dF ((addsOf p).take i)),.i i]) rfl 3 ⟨0,by omega,rfl,rfl⟩ ?_
  rintro m _ ⟨i,hi,hm,rfl⟩
  refine WR.iteP ((i : Int) < 3) rfl (fun h => ?_) (fun h => ?_)
  · obtain ⟨x,hx,hd⟩ := dF_get (l := p) (i := (i : Int)) (by omega) (by omega)
    have hsx := sp x (List.mem_of_getElem? hx)
    refine WR.idxA (ds := dF p) i rfl rfl rfl (by omega) hd rfl ?_
    refine WR.callA (args := [dI i]) rfl rfl (ev_FrmPot i (by omega) (by omega)) rfl ?_
    rw [Int.toNat_natCast] at hx
    refine WR.callA (args := x.cells ++ (potF (i : Int).toNat).cells ++ [dI (-1)]) rfl rfl (ev_l1Sum hsx (potF_std.mono h0) hM (by omega)) rfl ?_
    have hn : (addsOf p)[i]? = some (sumF x (potF (i : Int).toNat) (-1)) := by
      have e : p.getD i Frm.none = x := by rw [List.getD_eq_getElem?_getD,hx]; rfl
      subst e
      rw [Int.toNat_natCast]
      match i,h with
      | 0,_ => rfl
      | 1,_ => rfl
      | 2,_ => rfl
      | n + 3,h => omega
    refine WR.chkLen (dF ((addsOf p).take i) ++ [(sumF x (potF (i : Int).toNat) (-1)).g]) rfl (by rw [dF_snoc,dF_len]; simp; omega) ?_
    refine WR.nextA (vs := [.l (dF ((addsOf p).take (i + 1))),.i ((i + 1 : Nat) : Int)]) ?_ ⟨m - 1,by omega,i + 1,by omega,by omega,rfl⟩
    show [V.l (dF ((addsOf p).take i) ++ [(sumF x (potF (i : Int).toNat) (-1)).g]),V.i (IntKind.i64.wrap ((i : Int) + 1))] = _
    rw [dF_snoc,tS1 hn,w64 (by omega) (by omega)]; rfl
  · refine WR.esc (WR.done ?_)
    have hi3 : i = 3 := by omega
    subst hi3; rfl
structure Good (act : List Line) : Prop where
  len : act.length ≤ 6
  ok : ∀ l ∈ act,l.ok = true
theorem actOk_good {act : List Line} (h : actOk act = true) : Good act := by
  simp only [actOk,Bool.and_eq_true,decide_eq_true_eq,List.all_eq_true] at h
  exact ⟨by omega,h.1.1⟩
theorem ok_small {l : Line} (h : l.ok = true) (h4 : ¬ l.kind = 4) : l.f.small = true := by
  unfold Line.ok at h
  split at h
  · simp only [Bool.and_eq_true] at h; exact h.2
  split at h
  · simp only [Bool.and_eq_true] at h; exact h.2
  split at h
  · simp only [Bool.and_eq_true] at h; exact h.2
  · simp [h4] at h
theorem ok_pot {l : Line} (h : l.ok = true) (h2 : l.kind = 2) : 0 ≤ l.pot ∧ l.pot ≤ 2 := by
  unfold Line.ok at h
  rw [if_neg (by omega),if_pos h2] at h
  simp only [Bool.and_eq_true,inB_iff] at h; exact h.1.1
theorem ok_skip {l : Line} (h : l.ok = true) (h1 : l.kind = 1) : 1 ≤ l.skip ∧ l.skip ≤ 6 := by
  unfold Line.ok at h
  rw [if_pos h1] at h
  simp only [Bool.and_eq_true,inB_iff] at h; exact h.1.2
theorem drop_cons {α : Type} {l : List α} {i : Nat} {x : α} (h : l[i]? = some x) : l.drop i = x :: l.drop (i + 1) := by
  obtain ⟨h1,h2⟩ := List.getElem?_eq_some_iff.1 h
  rw [List.drop_eq_getElem_cons h1,h2]
theorem mem_snoc {α : Type} {l : List α} {x : α} {p : α → Prop} (h : ∀ y ∈ l,p y) (hx : p x) : ∀ y ∈ l ++ [x],p y := by
  intro y hy
  rcases List.mem_append.1 hy with hy | hy
  · exact h y hy
  · simp at hy; subst hy; exact hx
theorem dRows_app (a b : List Row) : dRows a ++ dRows b = dRows (a ++ b) := by simp [dRows]
set_option maxHeartbeats 4000000 in
theorem ev_l3Walk {act : List Line} (hact : Good act) : ∀ (n : Nat) (at_ : Int) (p g t : List Frm) (j : Nat),0 ≤ at_ → at_ ≤ 20 → act.length - at_.toNat = n → (j : Int) ≤ at_ → j ≤ 6 →
    p.length = 3 → (∀ f ∈ p,Std (Bd j) f) → g.length ≤ j → (∀ f ∈ g,Std 10000000 f) → t.length ≤ j → (∀ f ∈ t,Std 10000000 f) →
    Ev L f_k19 [.s (dAct act),dI at_,.s (dF p),.s (dF g),.s (dF t)] [.s (dRows (walk (act.drop at_.toNat) p g t))] := by
  intro n
  induction n using Nat.strongRecOn with
  | _ n ih =>
    intro at_ p g t j a0 a20 hn hj hj6 hp sp hg sg ht st
    have hal := hact.len
    refine Ev.eq (vs := [.l (dAct act),.i at_,.l (dF p),.l (dF g),.l (dF t)]) L_k19 rfl ?_
    refine WR.loop (fun m vs => ∃ (i : Int) (p' t' : List Frm) (j' : Nat),vs = [.l (dF p'),.l (dF t'),.i i] ∧ at_ ≤ i ∧ i ≤ 20 ∧ m = act.length - i.toNat ∧ (j' : Int) ≤ i ∧ j ≤ j' ∧ j' ≤ 6 ∧ p'.length = 3 ∧ (∀ f ∈ p',Std (Bd j') f) ∧ t'.length ≤ j' ∧ (∀ f ∈ t',Std 10000000 f) ∧
      walk (act.drop i.toNat) p' g t' = walk (act.drop at_.toNat) p g t) rfl (act.length - at_.toNat) ⟨at_,p,t,j,rfl,by omega,a20,rfl,hj,by omega,hj6,hp,sp,ht,st,rfl⟩ ?_
    rintro m _ ⟨i,p',t',j',rfl,ai,i20,hm,hj',hjj,hj6',hp',sp',ht',st',hw⟩
    have hB := Bd_le hj6'
    have hB0 := Bd_nonneg j'
    refine WR.iteP (i < ((dAct act).length : Int)) rfl (fun hi => ?_) (fun hi => ?_)
    · rw [dAct_len] at hi
      obtain ⟨l,hl,hd⟩ := dAct_get (a := act) (i := i) (by omega) hi
      have hok := hact.ok l (List.mem_of_getElem? hl)
      have hdr := drop_cons hl
      have hs1 : (i + 1).toNat = i.toNat + 1 := by omega
      refine WR.idxA (ds := dAct act) i rfl rfl rfl (by omega) hd rfl ?_
      refine WR.iteP (l.kind = 4) rfl (fun h4 => ?_) (fun h4 => ?_)
      · refine WR.callA (args := [.s (dF g)]) rfl rfl (ev_l3Copy (by omega) sg (by omega) (by omega)) rfl ?_
        refine WR.esc (WR.done ?_)
        show [D.s [D.g [.s (dF g),.s [],.s [],dB true]]] = _
        rw [← hw,hdr,walk,if_pos h4]; rfl
      have hsm := ok_small hok h4
      have hin := into_std hsm hp' sp' hB0
      have hin7 : Std 10000000 (intoF l.f p') := hin.mono (by omega)
      refine WR.callA (args := l.f.cells ++ [.s (dF p')]) rfl rfl (ev_FrmInto hsm hp' sp' hB0 (by omega)) rfl ?_
      have hj5 : j' < 6 := by omega
      refine WR.iteP (l.kind = 1) rfl (fun h1 => ?_) (fun h1 => ?_)
      · have hsk := ok_skip hok h1
        have hg' : (g ++ [intoF l.f p']).length ≤ j' + 1 := by simp; omega
        have hg2 : (g ++ [minusF (intoF l.f p')]).length ≤ j' + 1 := by simp; omega
        have hmin : Std 10000000 (minusF (intoF l.f p')) := (minusF_std hin).mono (by omega)
        have spB : ∀ f ∈ p',Std (Bd (j' + 1)) f := fun f hf => (sp' f hf).mono (Bd_mono (by omega))
        have cp := ev_l3Copy (by omega : p'.length ≤ 2000000) sp' hB0 (by omega)
        have cg := ev_l3Copy (by omega : g.length ≤ 2000000) sg (by omega) (by omega)
        have ct := ev_l3Copy (by omega : t'.length ≤ 2000000) st' (by omega) (by omega)
        refine WR.callA (args := [.s (dF p')]) rfl rfl cp rfl ?_
        refine WR.callA (args := [.s (dF g)]) rfl rfl cg rfl ?_
        refine WR.chkLen (dF g ++ [(intoF l.f p').g]) rfl (by rw [dF_snoc,dF_len]; omega) ?_
        refine WR.callA (args := [.s (dF t')]) rfl rfl ct rfl ?_
        have e1 := ih (act.length - (i + 1).toNat) (by omega) (i + 1) p' (g ++ [intoF l.f p']) t' (j' + 1) (by omega) (by omega) rfl (by omega) (by omega) hp' spB hg' (mem_snoc sg hin7) (by omega) st'
        refine WR.callA (args := [.s (dAct act),dI (i + 1),.s (dF p'),.s (dF (g ++ [intoF l.f p'])),.s (dF t')]) rfl ?_ e1 rfl ?_
        · show [D.s (dAct act),dI (IntKind.i64.wrap (i + 1)),.s (dF p'),.s (dF g ++ [(intoF l.f p').g]),.s (dF t')] = _
          rw [dF_snoc,w64 (by omega) (by omega)]
        refine WR.callA (args := [.s (dF p')]) rfl rfl cp rfl ?_
        refine WR.callA (args := [.s (dF g)]) rfl rfl cg rfl ?_
        refine WR.callA (args := (intoF l.f p').cells) rfl rfl (ev_l3Minus hin7 (by omega) (by omega)) rfl ?_
        refine WR.chkLen (dF g ++ [(minusF (intoF l.f p')).g]) rfl (by rw [dF_snoc,dF_len]; omega) ?_
        refine WR.callA (args := [.s (dF t')]) rfl rfl ct rfl ?_
        have e2 := ih (act.length - (i + 1 + l.skip).toNat) (by omega) (i + 1 + l.skip) p' (g ++ [minusF (intoF l.f p')]) t' (j' + 1) (by omega) (by omega) rfl (by omega) (by omega) hp' spB hg2 (mem_snoc sg hmin) (by omega) st'
        refine WR.callA (args := [.s (dAct act),dI (i + 1 + l.skip),.s (dF p'),.s (dF (g ++ [minusF (intoF l.f p')])),.s (dF t')]) rfl ?_ e2 rfl ?_
        · show [D.s (dAct act),dI (IntKind.i64.wrap (IntKind.i64.wrap (i + 1) + l.skip)),.s (dF p'),.s (dF g ++ [(minusF (intoF l.f p')).g]),.s (dF t')] = _
          rw [dF_snoc,w64 (n := i + 1) (by omega) (by omega),w64 (by omega) (by omega)]
        have wl : ∀ (k : Nat) (a b c : List Frm),(walk (act.drop k) a b c).length ≤ 64 := fun k a b c => by
          refine Nat.le_trans (walk_len _ _ _ _) ?_
          exact Nat.le_trans (Nat.pow_le_pow_right (by omega) (show (act.drop k).length ≤ 6 by simp; omega)) (by decide)
        have w1 := wl (i + 1).toNat p' (g ++ [intoF l.f p']) t'
        have w2 := wl (i + 1 + l.skip).toNat p' (g ++ [minusF (intoF l.f p')]) t'
        refine WR.chkLen (dRows (walk (act.drop (i + 1 + l.skip).toNat) p' (g ++ [minusF (intoF l.f p')]) t')) rfl (by rw [dRows_len]; omega) ?_
        refine WR.head (head_rows _) ?_
        refine WR.chkLen (dRows (walk (act.drop (i + 1).toNat) p' (g ++ [intoF l.f p']) t') ++ dRows (walk (act.drop (i + 1 + l.skip).toNat) p' (g ++ [minusF (intoF l.f p')]) t')) rfl (by rw [List.length_append,dRows_len,dRows_len]; omega) ?_
        refine WR.esc (WR.done ?_)
        show [D.s (dRows (walk (act.drop (i + 1).toNat) p' (g ++ [intoF l.f p']) t') ++ dRows (walk (act.drop (i + 1 + l.skip).toNat) p' (g ++ [minusF (intoF l.f p')]) t'))] = _
        rw [dRows_app,← hw,hdr,walk,if_neg h4,if_pos h1,List.drop_drop,hs1,show i.toNat + 1 + l.skip.toNat = (i + 1 + l.skip).toNat by omega]
      refine WR.iteP (l.kind = 2) rfl (fun h2 => ?_) (fun h2 => ?_)
      · have hpt := ok_pot hok h2
        have hlt : l.pot.toNat < p'.length := by omega
        obtain ⟨hm1,hm2⟩ := getD_mem hlt
        have hdg : (dF p')[l.pot.toNat]? = some (p'.getD l.pot.toNat Frm.none).g := mA1 (f := Frm.g) hm2
        refine WR.callA (args := [.s (dF p')]) rfl rfl (ev_l3Copy (by omega) sp' hB0 (by omega)) rfl ?_
        refine WR.chkP (0 ≤ l.pot) rfl hpt.1 ?_
        refine WR.chkP (l.pot < ((dF p').length : Int)) rfl (by rw [dF_len]; omega) ?_
        refine WR.idxA (ds := dF p') l.pot rfl rfl rfl hpt.1 hdg rfl ?_
        refine WR.callA (args := (p'.getD l.pot.toNat Frm.none).cells ++ (intoF l.f p').cells ++ [dI 1]) rfl rfl (ev_l1Sum ((sp' _ hm1).mono (by omega)) hin7 (by omega) (by omega)) rfl ?_
        refine WR.chkP (0 ≤ l.pot) rfl hpt.1 ?_
        refine WR.chkP (l.pot < ((dF p').length : Int)) rfl (by rw [dF_len]; omega) ?_
        refine WR.idxA (ds := dF p') l.pot rfl rfl rfl hpt.1 hdg rfl ?_
        have hsum : Std (Bd (j' + 1)) (sumF (p'.getD l.pot.toNat Frm.none) (intoF l.f p') 1) := (sumF_std (sp' _ hm1) hin (n := 1) (N := 1) (by omega)).mono (by simp only [Bd]; omega)
        refine WR.nextA (vs := [.l (dF (p'.set l.pot.toNat (sumF (p'.getD l.pot.toNat Frm.none) (intoF l.f p') 1))),.l (dF t'),.i (i + 1)]) ?_
          ⟨act.length - (i + 1).toNat,by omega,i + 1,p'.set l.pot.toNat (sumF (p'.getD l.pot.toNat Frm.none) (intoF l.f p') 1),t',j' + 1,rfl,by omega,by omega,rfl,by omega,by omega,by omega,by simp [hp'],?_,by omega,st',?_⟩
        · show [V.l ((dF p').set l.pot.toNat (sumF (p'.getD l.pot.toNat Frm.none) (intoF l.f p') 1).g),V.l (dF t'),V.i (IntKind.i64.wrap (i + 1))] = _
          rw [w64 (by omega) (by omega)]
          simp [dF,List.map_set]
        · intro f hf
          rcases List.mem_or_eq_of_mem_set hf with hf | hf
          · exact (sp' f hf).mono (Bd_mono (by omega))
          · subst hf; exact hsum
        · rw [← hw,hdr,hs1]; conv => rhs; rw [walk]
          rw [if_neg h4,if_neg h1,if_pos h2]
      · refine WR.callA (args := [.s (dF t')]) rfl rfl (ev_l3Copy (by omega) st' (by omega) (by omega)) rfl ?_
        refine WR.chkLen (dF t' ++ [(intoF l.f p').g]) rfl (by rw [dF_snoc,dF_len,List.length_append,List.length_singleton]; omega) ?_
        refine WR.nextA (vs := [.l (dF p'),.l (dF (t' ++ [intoF l.f p'])),.i (i + 1)]) ?_
          ⟨act.length - (i + 1).toNat,by omega,i + 1,p',t' ++ [intoF l.f p'],j' + 1,rfl,by omega,by omega,rfl,by omega,by omega,by omega,hp',fun f hf => (sp' f hf).mono (Bd_mono (by omega)),by simp; omega,mem_snoc st' hin7,?_⟩
        · show [V.l (dF p'),V.l (dF t' ++ [(intoF l.f p').g]),V.i (IntKind.i64.wrap (i + 1))] = _
          rw [dF_snoc,w64 (by omega) (by omega)]
        · rw [← hw,hdr,hs1]; conv => rhs; rw [walk]
          rw [if_neg h4,if_neg h1,if_neg h2]
    · rw [dAct_len] at hi
      refine WR.esc ?_
      refine WR.callA (args := [.s (dF p'),.s (dF g),.s (dF t')]) rfl rfl (ev_l3Row (M := 10000000) hp' (fun f hf => (sp' f hf).mono (by omega)) (by omega) sg (by omega) st' (by omega) (by omega)) rfl ?_
      refine WR.done ?_
      show [D.s [(rowEnd p' g t').g]] = _
      rw [← hw,List.drop_eq_nil_of_le (by omega),walk]; rfl
theorem ev_RowsOf (act : List Line) (hf : fitAct act) : Ev L f_k1a [.s (dAct act)] [.s (dRows (rowsOf act))] := by
  refine Ev.eq (vs := [.l (dAct act)]) L_k1a rfl ?_
  refine WR.callA (args := [.s (dAct act)]) rfl rfl (ev_ActOk act hf) rfl ?_
  refine WR.iteP (actOk act = false) ?_ (fun h => WR.done ?_) (fun h => ?_)
  · show (!(actOk act)) = _
    cases actOk act <;> rfl
  · show [D.s []] = _
    simp [rowsOf,h,dRows]
  have h : actOk act = true := by simpa using h
  refine WR.callA (args := [dI 0]) rfl rfl (ev_FrmPot 0 (by omega) (by omega)) rfl ?_
  refine WR.callA (args := [dI 1]) rfl rfl (ev_FrmPot 1 (by omega) (by omega)) rfl ?_
  refine WR.callA (args := [dI 2]) rfl rfl (ev_FrmPot 2 (by omega) (by omega)) rfl ?_
  have e := ev_l3Walk (actOk_good h) act.length 0 [potF 0,potF 1,potF 2] [] [] 0 (by omega) (by omega) (by simp) (by omega) (by omega) rfl (by
    intro f hf'
    simp at hf'
    rcases hf' with rfl | rfl | rfl <;> exact potF_std) (by simp) (by simp) (by simp) (by simp)
  refine WR.callA (args := [.s (dAct act),dI 0,.s (dF [potF 0,potF 1,potF 2]),.s (dF []),.s (dF [])]) rfl rfl e rfl ?_
  refine WR.done ?_
  show [D.s (dRows (walk (act.drop (0 : Int).toNat) [potF 0,potF 1,potF 2] [] []))] = _
  simp [rowsOf,h]
end Go.Proofs.YtgiejmanbmeloaaGreatDoor
/- What the reference's parts,pins,and draws of them come to. -/
namespace Go.Proofs.YtgiejmanbmeloaaGreatDoor
open Go Go.Tm
def fitActs (as : List (List Line)) : Prop := as.length ≤ 2000000 ∧ ∀ a ∈ as,fitAct a
theorem slimAs.fit {as : List (List Line)} (h : slimAs as) : fitActs as := ⟨by have := h.1; omega,fun a ha => (h.2 a ha).fit⟩
theorem ev_CatOk (as : List (List Line)) (hf : fitActs as) : Ev L f_kx [.s (dActs as)] [dB (catOk as)] := by
  have hl := hf.1
  refine Ev.eq (vs := [.l (dActs as)]) L_kx rfl ?_
  refine WR.ev (ev_l1In as.length 1 4) rfl ?_ rfl ?_
  · show [dI ((dActs as).length : Int),dI 1,dI 4] = _
    rw [dActs_len]
  refine WR.iteN (inB as.length 1 4) rfl (fun h => WR.done ?_) (fun h => ?_)
  · show [dB false] = _
    simp [catOk,h]
  refine WR.forP as.length (fun i => [.i i]) (fun i => (as.take i).all actOk = true) rfl rfl (by simp) fun i hi hp => ?_
  refine WR.iteLen i (dActs_len as) rfl (fun h' => ?_) (fun h' => ?_)
  · obtain ⟨x,hx,hm⟩ := sA1 h'
    refine WR.idxN i (mA1 (f := fun a => .s (dAct a)) hx) rfl rfl rfl rfl ?_
    refine WR.ev (ev_ActOk x (hf.2 x hm)) rfl rfl rfl ?_
    refine WR.iteN (actOk x) rfl (fun hb => WR.esc (WR.done ?_)) (fun hb => ?_)
    · show [dB false] = _
      simp [catOk,all_not hx hb]
    · refine WR.nextA (vs := [.i ((i + 1 : Nat) : Int)]) ?_ ⟨h',rfl,all_take hx hp hb⟩
      show [V.i (IntKind.i64.wrap ((i : Int) + 1))] = _
      rw [wS h' (by omega)]
  · refine WR.esc (WR.done ?_)
    rw [tA1 h'] at hp
    show [dB true] = _
    simp only [catOk,h,hp]; simp
theorem ev_CatPart (f : Frm) (hl : Lim 1000000000 f.c) (hn : f.c.length ≤ 2000000) : Ev L f_k1c f.cells [.s (dL (partOf f.c))] := by
  refine Ev.eq (vs := [.l (dL f.c),.l (dL f.d),.i f.k]) L_k1c rfl ?_
  refine WR.forP f.c.length (fun i => [.l (dL (partOf (f.c.take i))),.i (sgn1 (f.c.take i)),.i i]) (fun _ => True) rfl rfl trivial fun i hi _ => ?_
  refine WR.iteLen i (dL1 f.c) rfl (fun h => ?_) (fun h => ?_)
  · obtain ⟨x,hx,hm⟩ := sA1 h
    have hd := mA1 (f := dI) hx
    have hxl := hl x hm
    have hs := sgn_snoc (f.c.take i) x
    have hps := part_snoc (f.c.take i) x
    rw [← tS1 hx] at hs hps
    have hlen : (partOf (f.c.take i)).length ≤ i := by rw [part_len]; simp; omega
    have hin := sgn_in (f.c.take i)
    have fin : ∀ (s : Int) (l : List V),s = sgn1 (f.c.take (i + 1)) → [V.l (dL (partOf (f.c.take i)) ++ [dI (IntKind.i64.wrap (s * x))]),V.i s,V.i (IntKind.i64.wrap ((i : Int) + 1))] = [V.l (dL (partOf (f.c.take (i + 1)))),.i (sgn1 (f.c.take (i + 1))),.i ((i + 1 : Nat) : Int)] := by
      intro s _ e
      subst e
      rw [wS h (by omega),hps,w64,dL_snoc]
      · rcases sgn_in (f.c.take (i + 1)) with e | e | e <;> rw [e] <;> omega
      · rcases sgn_in (f.c.take (i + 1)) with e | e | e <;> rw [e] <;> omega
    generalize hS : sgn1 (f.c.take i) = S at *
    refine WR.iteP (S = 0) rfl (fun h0 => ?_) (fun h0 => ?_)
    · subst h0
      simp only [if_true] at hs
      refine WR.idxN i hd rfl rfl rfl rfl ?_
      refine WR.iteP (0 < x) rfl (fun h1 => ?_) (fun h1 => ?_)
      · refine WR.idxN i hd rfl rfl rfl rfl ?_
        refine WR.chkApp (dL (partOf (f.c.take i))) 2000000 (by rw [dL1]; omega) (by omega) rfl ?_
        rw [if_pos h1] at hs
        exact WR.nextA (fin 1 [] hs.symm) ⟨h,rfl,trivial⟩
      · refine WR.iteP ((0 : Int) = 0) rfl (fun _ => ?_) (fun h => absurd rfl h)
        refine WR.idxN i hd rfl rfl rfl rfl ?_
        refine WR.iteP (x < 0) rfl (fun h2 => ?_) (fun h2 => ?_)
        · refine WR.idxN i hd rfl rfl rfl rfl ?_
          refine WR.chkApp (dL (partOf (f.c.take i))) 2000000 (by rw [dL1]; omega) (by omega) rfl ?_
          rw [if_neg h1,if_pos h2] at hs
          exact WR.nextA (fin (-1) [] hs.symm) ⟨h,rfl,trivial⟩
        · refine WR.idxN i hd rfl rfl rfl rfl ?_
          refine WR.chkApp (dL (partOf (f.c.take i))) 2000000 (by rw [dL1]; omega) (by omega) rfl ?_
          rw [if_neg h1,if_neg h2] at hs
          exact WR.nextA (fin 0 [] hs.symm) ⟨h,rfl,trivial⟩
    · rw [if_neg h0] at hs
      refine WR.iteP (S = 0) rfl (fun h => absurd h h0) (fun _ => ?_)
      refine WR.idxN i hd rfl rfl rfl rfl ?_
      refine WR.chkApp (dL (partOf (f.c.take i))) 2000000 (by rw [dL1]; omega) (by omega) rfl ?_
      exact WR.nextA (fin S [] hs.symm) ⟨h,rfl,trivial⟩
  · refine WR.esc (WR.done ?_)
    show [D.s (dL (partOf (f.c.take i)))] = _
    rw [tA1 h]
def sameR (cmp : E) (sh : Sh) : R :=
  .ite (.not (.cmp .eq (.len (.v 0)) (.len (.v 1))))
   (
    .done [(.vb .ff)])
   (
    .loop 2 [(.z 0)] <|
      .ite (.cmp .lt (.v 2) (.len (.v 0)))
       (
        .i (.idx (.v 0) (.v 2) sh 3) <|
        .i (.idx (.v 1) (.v 2) sh 4) <|
        .ite (.not cmp)
         (
          .esc <|
          .done [(.vb .ff)])
         (
          .next [(.bin .add .i64 (.v 2) (.z 1))]))
       (
        .esc <|
        .done [(.vb .tt)]))
theorem ev_same {α : Type} [DecidableEq α] {f : FuncId} {H : Hint} {s : Sig} {cmp : E} {sh : Sh} (enc : α → D) (vOf : α → V) (a b : List α) (hf : L.lookup f = some ⟨s,.r H (sameR cmp sh)⟩) (hs : insOf s = [.s,.s])
    (hb : ∀ x,bindSh sh (enc x) = some [vOf x]) (hc : ∀ (v0 v1 v2 : V) (x y : α),bol (envL [v0,v1,v2,vOf x,vOf y]) cmp = decide (x = y)) (hl : a.length ≤ 2000000) :
    Ev L f [.s (a.map enc),.s (b.map enc)] [dB (decide (a = b))] := by
  refine Ev.eq (vs := [.l (a.map enc),.l (b.map enc)]) hf (by rw [hs]; rfl) ?_
  refine WR.iteP (¬ a.length = b.length) ?_ (fun h => WR.done ?_) (fun h => ?_)
  · show (!(decide (((a.map enc).length : Int) = ((b.map enc).length : Int)))) = _
    rw [List.length_map,List.length_map]
    by_cases h : a.length = b.length
    · simp [h]
    · simp [h,show ¬ (a.length : Int) = b.length by omega]
  · show [dB false] = _
    rw [decide_eq_false]
    intro e; exact h (by rw [e])
  have h : a.length = b.length := Classical.not_not.1 h
  refine WR.forP a.length (fun i => [.i i]) (fun i => a.take i = b.take i) rfl rfl rfl fun i hi hp => ?_
  refine WR.iteLen i (List.length_map (f := enc) (as := a)) rfl (fun h' => ?_) (fun h' => ?_)
  · obtain ⟨x,hx,_⟩ := sA1 h'
    obtain ⟨y,hy,_⟩ := sA1 (show i < b.length by omega)
    refine WR.idxN i (mA1 (f := enc) hx) rfl rfl rfl (hb x) ?_
    refine WR.idxN i (mA1 (f := enc) hy) rfl rfl rfl (hb y) ?_
    refine WR.iteN (decide (x = y)) ?_ (fun hxy => WR.esc (WR.done ?_)) (fun hxy => ?_)
    · show (!(bol (envL [V.l (a.map enc),.l (b.map enc),.i i,vOf x,vOf y]) cmp)) = _
      rw [hc]
    · show [dB false] = _
      rw [decide_eq_false]
      intro e
      subst e
      rw [hx] at hy
      simp only [Option.some.injEq] at hy
      simp [hy] at hxy
    · have hxy : x = y := by simpa using hxy
      subst hxy
      refine WR.nextA (vs := [.i ((i + 1 : Nat) : Int)]) ?_ ⟨h',rfl,by show a.take (i + 1) = b.take (i + 1); rw [tS1 hx,tS1 hy,hp]⟩
      show [V.i (IntKind.i64.wrap ((i : Int) + 1))] = _
      rw [wS h' (by omega)]
  · refine WR.esc (WR.done ?_)
    rw [tA1 h',tA1 (by omega)] at hp
    subst hp
    show [dB true] = _
    simp
theorem ev_l4Same (a b : List Int) (hl : a.length ≤ 2000000) : Ev L f_k1d [.s (dL a),.s (dL b)] [dB (decide (a = b))] :=
  ev_same dI .i a b L_k1d rfl (fun _ => rfl) (fun _ _ _ _ _ => rfl) hl
theorem ev_CatHas (l : List (List Int)) (p : List Int) (hl : l.length ≤ 2000000) (hq : ∀ q ∈ l,q.length ≤ 2000000) : Ev L f_k1e [.s (dLL l),.s (dL p)] [dI (hasAt l p)] := by
  refine Ev.eq (vs := [.l (dLL l),.l (dL p)]) L_k1e rfl ?_
  refine WR.forP l.length (fun i => [.i i]) (fun i => (l.take i).any (fun q => decide (q = p)) = false) rfl rfl (by simp) fun i hi hn => ?_
  refine WR.iteLen i (dLL_len l) rfl (fun h => ?_) (fun h => ?_)
  · obtain ⟨x,hx,hm⟩ := sA1 h
    refine WR.idxN i (mA1 (f := fun x => .s (dL x)) hx) rfl rfl rfl rfl ?_
    refine WR.ev (ev_l4Same x p (hq x hm)) rfl rfl rfl ?_
    refine WR.iteB (decide (x = p)) rfl (fun hp => WR.esc (WR.done ?_)) (fun hp => ?_)
    · show [dI i] = _
      rw [hasAt,place_some hx hp hn]
    · refine WR.nextA (vs := [.i ((i + 1 : Nat) : Int)]) ?_ ⟨h,rfl,any_take hx hn hp⟩
      show [V.i (IntKind.i64.wrap ((i : Int) + 1))] = _
      rw [wS h (by omega)]
  · refine WR.esc (WR.done ?_)
    rw [tA1 h] at hn
    show [dI (-1)] = _
    rw [hasAt,place_none hn]
theorem head_bl (p : List Bool) : headOk 1 (dBl p) = true := by cases p <;> rfl
theorem ev_l4Reads (p : List Bool) (fs : List Frm) (hp : p.length = 3) (hc : ∀ f ∈ fs,f.c.length = 3) (hl : fs.length ≤ 2000000) : Ev L f_k1b [.s (dBl p),.s (dF fs)] [.s (dBl (readsL p fs))] := by
  refine Ev.eq (vs := [.l (dBl p),.l (dF fs)]) L_k1b rfl ?_
  refine WR.chkN (dBl p) 3 (by rw [dBl_len]; omega) (by omega) rfl ?_
  refine WR.head (head_bl p) ?_
  refine WR.chkN (dBl p) 3 (by rw [dBl_len]; omega) (by omega) rfl ?_
  refine WR.forP fs.length (fun i => [.l (dBl (readsL p (fs.take i))),.i i]) (fun _ => True) rfl rfl trivial fun i hi _ => ?_
  refine WR.iteLen i (dF_len fs) rfl (fun h => ?_) (fun h => ?_)
  · obtain ⟨x,hx,hm⟩ := sA1 h
    have hx3 := hc x hm
    have hP : (readsL p (fs.take i)).length = 3 := readsL_len hp fun f hf => hc f (List.mem_of_mem_take hf)
    have hS : readsL p (fs.take (i + 1)) = orAt (readsL p (fs.take i)) x.c := foldl_take hx
    generalize readsL p (fs.take i) = P at *
    have hO : (orAt P x.c).length = 3 := by rw [orAt_len]; omega
    refine WR.forP 3 (fun v => [.l (dBl ((orAt P x.c).take v ++ P.drop v)),.i v]) (fun _ => True) rfl rfl trivial fun v hv _ => ?_
    refine WR.iteLt v 3 rfl (fun hv3 => ?_) (fun hv3 => ?_)
    · obtain ⟨n,hn,_⟩ := sA1 (show v < x.c.length by omega)
      obtain ⟨b,hb,_⟩ := sA1 (show v < P.length by omega)
      have ho : (orAt P x.c)[v]? = some (b || decide (n ≠ 0)) := by simp [orAt,List.getElem?_zipWith,hn,hb]
      refine WR.idxN i (mA1 (f := Frm.g) hx) rfl rfl rfl rfl ?_
      refine WR.idxN v (mA1 (f := dI) hn) rfl rfl rfl rfl ?_
      have hlen : ((orAt P x.c).take v ++ P.drop v).length = 3 := by simp; omega
      refine WR.iteN (decide (n = 0)) rfl (fun h0 => ?_) (fun h0 => ?_)
      · obtain ⟨b',hb',_⟩ := sA1 (show v < ((orAt P x.c).take v ++ P.drop v).length by omega)
        refine WR.atN v (mA1 (f := dB) hb') rfl rfl rfl rfl rfl rfl ?_
        have h0 : n ≠ 0 := by simpa using h0
        have ho : (orAt P x.c)[v]? = some true := by rw [ho]; simp [h0]
        refine WR.nextA (vs := [.l (dBl ((orAt P x.c).take (v + 1) ++ P.drop (v + 1))),.i ((v + 1 : Nat) : Int)]) ?_ ⟨hv3,rfl,trivial⟩
        show [V.l ((dBl ((orAt P x.c).take v ++ P.drop v)).set (v : Int).toNat (dB true)),V.i (IntKind.i64.wrap ((v : Int) + 1))] = _
        rw [wS hv3 (by omega),dBl_set,Int.toNat_natCast,fill' (by omega) ho]
      · have h0 : n = 0 := by simpa using h0
        refine WR.nextA (vs := [.l (dBl ((orAt P x.c).take (v + 1) ++ P.drop (v + 1))),.i ((v + 1 : Nat) : Int)]) ?_ ⟨hv3,rfl,trivial⟩
        show [V.l (dBl ((orAt P x.c).take v ++ P.drop v)),V.i (IntKind.i64.wrap ((v : Int) + 1))] = _
        rw [wS hv3 (by omega),fill_same (s := b) (by rw [ho]; simp [h0]) hb]
    · have : v = 3 := by omega
      subst this
      rw [List.take_of_length_le (by omega),List.drop_eq_nil_of_le (by omega),List.append_nil]
      refine WR.esc ?_
      refine WR.nextA (vs := [.l (dBl (readsL p (fs.take (i + 1)))),.i ((i + 1 : Nat) : Int)]) ?_ ⟨h,rfl,trivial⟩
      show [V.l (dBl (orAt P x.c)),V.i (IntKind.i64.wrap ((i : Int) + 1))] = _
      rw [wS h (by omega),hS]
  · refine WR.esc (WR.done ?_)
    show [D.s (dBl (readsL p (fs.take i)))] = _
    rw [tA1 h]
end Go.Proofs.YtgiejmanbmeloaaGreatDoor
