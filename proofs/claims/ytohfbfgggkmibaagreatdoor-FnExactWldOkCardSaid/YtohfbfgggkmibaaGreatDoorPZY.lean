import Derived.Test.YtohfbfgggkmibaaGreatDoorPZV
import Derived.Test.YtohfbfgggkmibaaGreatDoorPZM
set_option linter.unusedVariables false
set_option linter.unusedSimpArgs false
/- Worlds: sizes,copies,comparisons; which of them are ok: over residual programs. -/
namespace Go.Proofs.YtohfbfgggkmibaaGreatDoor
open Go Go.Tm
structure LogD where
  call : Cal
  code : Int
  tells : List Int
  deriving DecidableEq
abbrev dSt (l : List Sit) : List D := l.map Sit.g
abbrev dCn (l : List Con) : List D := l.map Con.g
abbrev dMs (l : List Msg) : List D := l.map Msg.g
def LogD.cells (x : LogD) : List D := [dI x.call.client,dI x.call.seq,dI x.call.act,.s (dL x.call.args),dI x.code,.s (dL x.tells)]
def LogD.g (x : LogD) : D := .g x.cells
abbrev dLg (l : List LogD) : List D := l.map LogD.g
def szCon (x : Con) : Nat := x.call.args.length + x.tells.length
def bigCon (x : Con) : Prop := x.call.args.length ≤ 9223372036854775807 ∧ x.tells.length ≤ 9223372036854775807
theorem fitCon_of {x : Con} (h : szCon x ≤ 1048576) : fitCon x := by
  unfold szCon at h
  exact ⟨by omega,by omega⟩
def szLogD (x : LogD) : Nat := x.call.args.length + x.tells.length
def bigLogD (x : LogD) : Prop := x.call.args.length ≤ 9223372036854775807 ∧ x.tells.length ≤ 9223372036854775807
def fitLogD (x : LogD) : Prop := x.call.args.length ≤ 2000000 ∧ x.tells.length ≤ 2000000
theorem fitLogD_of {x : LogD} (h : szLogD x ≤ 1048576) : fitLogD x := by
  unfold szLogD at h
  exact ⟨by omega,by omega⟩
theorem ev_szConClient (x : Con) (left : Int) (hb : bigCon x) (h0 : 0 ≤ left) (h1 : left ≤ 1048576) : Ev L f_kg (x.cells ++ [dI left]) [dI (dec left (szCon x))] := by
  refine Ev.eq (vs := [.i x.seq,.b x.busy,.i x.call.client,.i x.call.seq,.i x.call.act,.l (dL x.call.args),.i x.code,.l (dL x.tells),.i left]) L_kg rfl ?_
  refine WR.ev (ev_szPlnCall x.call left hb.1 h0 h1) rfl rfl rfl ?_
  simp only [sCA,sNA]
  have hr0 := dec_room (n := x.call.args.length) h0 h1
  refine WR.iteP (dec left (x.call.args.length) < 0) rfl (fun h => WR.done ?_) (fun h => ?_)
  · show [dI (-1)] = _
    rw [show szCon x = x.call.args.length + (x.tells.length) by unfold szCon; omega,dec_lt h h0]
  refine WR.ev (ev_szResResult x.code x.tells (dec left (x.call.args.length)) hb.2 (by omega) (by omega)) rfl rfl rfl ?_
  simp only [sCA,sNA]
  have hr1 := dec_room (n := x.call.args.length + x.tells.length) h0 h1
  rw [dec_dec h]
  refine WR.iteP (dec left (x.call.args.length + x.tells.length) < 0) rfl (fun h => WR.done ?_) (fun h => WR.done rfl)
  show [dI (-1)] = [dI (dec left (szCon x))]
  have e : dec left (szCon x) = dec left (x.call.args.length + x.tells.length) := rfl
  rw [e,show dec left (x.call.args.length + x.tells.length) = -1 by omega]
theorem ev_szConClientS (l : List Con) (left : Int) (hb : bigL bigCon l) (h0 : 0 ≤ left) (h1 : left ≤ 1048576) : Ev L f_kh [.s (dCn l),dI left] [dI (dec left (szL szCon l))] := by
  refine Ev.eq (vs := [.l (dCn l),.i left]) L_kh rfl ?_
  have hlen : (dCn l).length = l.length := by simp [dCn]
  have hl := hb.1
  have hw : IntKind.i64.wrap (left - ((dCn l).length : Int)) = left - l.length := by rw [hlen]; exact w64 (by omega) (by omega)
  refine WR.iteP (left - (l.length : Int) < 0) ?_ (fun h => WR.done ?_) (fun h => ?_)
  · show decide (IntKind.i64.wrap (left - ((dCn l).length : Int)) < 0) = _
    rw [hw]
  · show [dI (-1)] = _
    unfold dec szL; rw [if_neg (by omega)]
  have hal : l.length ≤ 1048576 := by omega
  refine WR.forP l.length (fun i => [.i (dec left (l.length + ((l.take i).map szCon).sum)),.i i]) (fun i => ¬ dec left (l.length + ((l.take i).map szCon).sum) < 0) rfl ?_ ?_ fun i hi hp => ?_
  · show [V.i (IntKind.i64.wrap (left - ((dCn l).length : Int))),V.i 0] = _
    rw [hw]
    simp only [List.take_zero,List.map_nil,List.sum_nil,Nat.add_zero]
    unfold dec; rw [if_pos (by omega)]; rfl
  · simp only [List.take_zero,List.map_nil,List.sum_nil,Nat.add_zero]
    unfold dec; rw [if_pos (by omega)]; omega
  simp only [sCA,sNA]
  have hr := dec_room (n := l.length + ((l.take i).map szCon).sum) h0 h1
  refine WR.iteLen i hlen rfl (fun h' => ?_) (fun h' => WR.esc (WR.done ?_))
  · obtain ⟨x,hx,hm⟩ := some_at h'
    refine WR.idxN (vs := [.i x.seq,.b x.busy,.i x.call.client,.i x.call.seq,.i x.call.act,.l (dL x.call.args),.i x.code,.l (dL x.tells)]) i (map_at (f := Con.g) hx) rfl rfl rfl rfl ?_
    simp only [sCA,sNA]
    refine WR.ev (ev_szConClient x (dec left (l.length + ((l.take i).map szCon).sum)) (hb.2 x hm) (by omega) (by omega)) rfl rfl rfl ?_
    simp only [sCA,sNA]
    have e := dec_dec (m := szCon x) hp
    rw [Nat.add_assoc,← szL_succ szCon hx] at e
    rw [e]
    refine WR.iteP (dec left (l.length + ((l.take (i + 1)).map szCon).sum) < 0) rfl (fun h2 => WR.esc (WR.done ?_)) (fun h2 => ?_)
    · show [dI (-1)] = _
      rw [szL_split szCon l (i + 1),dec_lt h2 h0]
    · refine WR.nextA (vs := [.i (dec left (l.length + ((l.take (i + 1)).map szCon).sum)),.i ((i + 1 : Nat) : Int)]) ?_ ⟨h',rfl,h2⟩
      rw [← wS h' (by omega)]; rfl
  · show [dI (dec left (l.length + ((l.take i).map szCon).sum))] = _
    rw [take_all h']; rfl
theorem ev_szLogDone (x : LogD) (left : Int) (hb : bigLogD x) (h0 : 0 ≤ left) (h1 : left ≤ 1048576) : Ev L f_kk (x.cells ++ [dI left]) [dI (dec left (szLogD x))] := by
  refine Ev.eq (vs := [.i x.call.client,.i x.call.seq,.i x.call.act,.l (dL x.call.args),.i x.code,.l (dL x.tells),.i left]) L_kk rfl ?_
  refine WR.ev (ev_szPlnCall x.call left hb.1 h0 h1) rfl rfl rfl ?_
  simp only [sCA,sNA]
  have hr0 := dec_room (n := x.call.args.length) h0 h1
  refine WR.iteP (dec left (x.call.args.length) < 0) rfl (fun h => WR.done ?_) (fun h => ?_)
  · show [dI (-1)] = _
    rw [show szLogD x = x.call.args.length + (x.tells.length) by unfold szLogD; omega,dec_lt h h0]
  refine WR.ev (ev_szResResult x.code x.tells (dec left (x.call.args.length)) hb.2 (by omega) (by omega)) rfl rfl rfl ?_
  simp only [sCA,sNA]
  have hr1 := dec_room (n := x.call.args.length + x.tells.length) h0 h1
  rw [dec_dec h]
  refine WR.iteP (dec left (x.call.args.length + x.tells.length) < 0) rfl (fun h => WR.done ?_) (fun h => WR.done rfl)
  show [dI (-1)] = [dI (dec left (szLogD x))]
  have e : dec left (szLogD x) = dec left (x.call.args.length + x.tells.length) := rfl
  rw [e,show dec left (x.call.args.length + x.tells.length) = -1 by omega]
theorem ev_szLogDoneS (l : List LogD) (left : Int) (hb : bigL bigLogD l) (h0 : 0 ≤ left) (h1 : left ≤ 1048576) : Ev L f_kl [.s (dLg l),dI left] [dI (dec left (szL szLogD l))] := by
  refine Ev.eq (vs := [.l (dLg l),.i left]) L_kl rfl ?_
  have hlen : (dLg l).length = l.length := by simp [dLg]
  have hl := hb.1
  have hw : IntKind.i64.wrap (left - ((dLg l).length : Int)) = left - l.length := by rw [hlen]; exact w64 (by omega) (by omega)
  refine WR.iteP (left - (l.length : Int) < 0) ?_ (fun h => WR.done ?_) (fun h => ?_)
  · show decide (IntKind.i64.wrap (left - ((dLg l).length : Int)) < 0) = _
    rw [hw]
  · show [dI (-1)] = _
    unfold dec szL; rw [if_neg (by omega)]
  have hal : l.length ≤ 1048576 := by omega
  refine WR.forP l.length (fun i => [.i (dec left (l.length + ((l.take i).map szLogD).sum)),.i i]) (fun i => ¬ dec left (l.length + ((l.take i).map szLogD).sum) < 0) rfl ?_ ?_ fun i hi hp => ?_
  · show [V.i (IntKind.i64.wrap (left - ((dLg l).length : Int))),V.i 0] = _
    rw [hw]
    simp only [List.take_zero,List.map_nil,List.sum_nil,Nat.add_zero]
    unfold dec; rw [if_pos (by omega)]; rfl
  · simp only [List.take_zero,List.map_nil,List.sum_nil,Nat.add_zero]
    unfold dec; rw [if_pos (by omega)]; omega
  simp only [sCA,sNA]
  have hr := dec_room (n := l.length + ((l.take i).map szLogD).sum) h0 h1
  refine WR.iteLen i hlen rfl (fun h' => ?_) (fun h' => WR.esc (WR.done ?_))
  · obtain ⟨x,hx,hm⟩ := some_at h'
    refine WR.idxN (vs := [.i x.call.client,.i x.call.seq,.i x.call.act,.l (dL x.call.args),.i x.code,.l (dL x.tells)]) i (map_at (f := LogD.g) hx) rfl rfl rfl rfl ?_
    simp only [sCA,sNA]
    refine WR.ev (ev_szLogDone x (dec left (l.length + ((l.take i).map szLogD).sum)) (hb.2 x hm) (by omega) (by omega)) rfl rfl rfl ?_
    simp only [sCA,sNA]
    have e := dec_dec (m := szLogD x) hp
    rw [Nat.add_assoc,← szL_succ szLogD hx] at e
    rw [e]
    refine WR.iteP (dec left (l.length + ((l.take (i + 1)).map szLogD).sum) < 0) rfl (fun h2 => WR.esc (WR.done ?_)) (fun h2 => ?_)
    · show [dI (-1)] = _
      rw [szL_split szLogD l (i + 1),dec_lt h2 h0]
    · refine WR.nextA (vs := [.i (dec left (l.length + ((l.take (i + 1)).map szLogD).sum)),.i ((i + 1 : Nat) : Int)]) ?_ ⟨h',rfl,h2⟩
      rw [← wS h' (by omega)]; rfl
  · show [dI (dec left (l.length + ((l.take i).map szLogD).sum))] = _
    rw [take_all h']; rfl
theorem ev_szSitSiteS (l : List Sit) (left : Int) (hb : bigL bigSit l) (h0 : 0 ≤ left) (h1 : left ≤ 1048576) : Ev L f_ka [.s (dSt l),dI left] [dI (dec left (szL szSit l))] := by
  refine Ev.eq (vs := [.l (dSt l),.i left]) L_ka rfl ?_
  have hlen : (dSt l).length = l.length := by simp [dSt]
  have hl := hb.1
  have hw : IntKind.i64.wrap (left - ((dSt l).length : Int)) = left - l.length := by rw [hlen]; exact w64 (by omega) (by omega)
  refine WR.iteP (left - (l.length : Int) < 0) ?_ (fun h => WR.done ?_) (fun h => ?_)
  · show decide (IntKind.i64.wrap (left - ((dSt l).length : Int)) < 0) = _
    rw [hw]
  · show [dI (-1)] = _
    unfold dec szL; rw [if_neg (by omega)]
  have hal : l.length ≤ 1048576 := by omega
  refine WR.forP l.length (fun i => [.i (dec left (l.length + ((l.take i).map szSit).sum)),.i i]) (fun i => ¬ dec left (l.length + ((l.take i).map szSit).sum) < 0) rfl ?_ ?_ fun i hi hp => ?_
  · show [V.i (IntKind.i64.wrap (left - ((dSt l).length : Int))),V.i 0] = _
    rw [hw]
    simp only [List.take_zero,List.map_nil,List.sum_nil,Nat.add_zero]
    unfold dec; rw [if_pos (by omega)]; rfl
  · simp only [List.take_zero,List.map_nil,List.sum_nil,Nat.add_zero]
    unfold dec; rw [if_pos (by omega)]; omega
  simp only [sCA,sNA]
  have hr := dec_room (n := l.length + ((l.take i).map szSit).sum) h0 h1
  refine WR.iteLen i hlen rfl (fun h' => ?_) (fun h' => WR.esc (WR.done ?_))
  · obtain ⟨x,hx,hm⟩ := some_at h'
    refine WR.idxN (vs := [.b x.up,.b x.frozen,.i x.round,.l (dL x.base),.l (dL x.added),.l (dDs x.done)]) i (map_at (f := Sit.g) hx) rfl rfl rfl rfl ?_
    simp only [sCA,sNA]
    refine WR.ev (ev_szSitSite x (dec left (l.length + ((l.take i).map szSit).sum)) (hb.2 x hm) (by omega) (by omega)) rfl rfl rfl ?_
    simp only [sCA,sNA]
    have e := dec_dec (m := szSit x) hp
    rw [Nat.add_assoc,← szL_succ szSit hx] at e
    rw [e]
    refine WR.iteP (dec left (l.length + ((l.take (i + 1)).map szSit).sum) < 0) rfl (fun h2 => WR.esc (WR.done ?_)) (fun h2 => ?_)
    · show [dI (-1)] = _
      rw [szL_split szSit l (i + 1),dec_lt h2 h0]
    · refine WR.nextA (vs := [.i (dec left (l.length + ((l.take (i + 1)).map szSit).sum)),.i ((i + 1 : Nat) : Int)]) ?_ ⟨h',rfl,h2⟩
      rw [← wS h' (by omega)]; rfl
  · show [dI (dec left (l.length + ((l.take i).map szSit).sum))] = _
    rw [take_all h']; rfl
theorem ev_szMsgMsgS (l : List Msg) (left : Int) (hb : bigL bigMsg l) (h0 : 0 ≤ left) (h1 : left ≤ 1048576) : Ev L f_kj [.s (dMs l),dI left] [dI (dec left (szL szMsg l))] := by
  refine Ev.eq (vs := [.l (dMs l),.i left]) L_kj rfl ?_
  have hlen : (dMs l).length = l.length := by simp [dMs]
  have hl := hb.1
  have hw : IntKind.i64.wrap (left - ((dMs l).length : Int)) = left - l.length := by rw [hlen]; exact w64 (by omega) (by omega)
  refine WR.iteP (left - (l.length : Int) < 0) ?_ (fun h => WR.done ?_) (fun h => ?_)
  · show decide (IntKind.i64.wrap (left - ((dMs l).length : Int)) < 0) = _
    rw [hw]
  · show [dI (-1)] = _
    unfold dec szL; rw [if_neg (by omega)]
  have hal : l.length ≤ 1048576 := by omega
  refine WR.forP l.length (fun i => [.i (dec left (l.length + ((l.take i).map szMsg).sum)),.i i]) (fun i => ¬ dec left (l.length + ((l.take i).map szMsg).sum) < 0) rfl ?_ ?_ fun i hi hp => ?_
  · show [V.i (IntKind.i64.wrap (left - ((dMs l).length : Int))),V.i 0] = _
    rw [hw]
    simp only [List.take_zero,List.map_nil,List.sum_nil,Nat.add_zero]
    unfold dec; rw [if_pos (by omega)]; rfl
  · simp only [List.take_zero,List.map_nil,List.sum_nil,Nat.add_zero]
    unfold dec; rw [if_pos (by omega)]; omega
  simp only [sCA,sNA]
  have hr := dec_room (n := l.length + ((l.take i).map szMsg).sum) h0 h1
  refine WR.iteLen i hlen rfl (fun h' => ?_) (fun h' => WR.esc (WR.done ?_))
  · obtain ⟨x,hx,hm⟩ := some_at h'
    refine WR.idxN (vs := [.i x.kind,.i x.to,.i x.frm,.i x.round,.i x.call.client,.i x.call.seq,.i x.call.act,.l (dL x.call.args),.l (dL x.vals),.l (dL x.seqs),.l (dDs x.done)]) i (map_at (f := Msg.g) hx) rfl rfl rfl rfl ?_
    simp only [sCA,sNA]
    refine WR.ev (ev_szMsgMsg x (dec left (l.length + ((l.take i).map szMsg).sum)) (hb.2 x hm) (by omega) (by omega)) rfl rfl rfl ?_
    simp only [sCA,sNA]
    have e := dec_dec (m := szMsg x) hp
    rw [Nat.add_assoc,← szL_succ szMsg hx] at e
    rw [e]
    refine WR.iteP (dec left (l.length + ((l.take (i + 1)).map szMsg).sum) < 0) rfl (fun h2 => WR.esc (WR.done ?_)) (fun h2 => ?_)
    · show [dI (-1)] = _
      rw [szL_split szMsg l (i + 1),dec_lt h2 h0]
    · refine WR.nextA (vs := [.i (dec left (l.length + ((l.take (i + 1)).map szMsg).sum)),.i ((i + 1 : Nat) : Int)]) ?_ ⟨h',rfl,h2⟩
      rw [← wS h' (by omega)]; rfl
  · show [dI (dec left (l.length + ((l.take i).map szMsg).sum))] = _
    rw [take_all h']; rfl
theorem ev_toConClient (x : Con) (hf : fitCon x) : Ev L f_k13 x.cells x.cells := by
  refine Ev.eq (vs := [.i x.seq,.b x.busy,.i x.call.client,.i x.call.seq,.i x.call.act,.l (dL x.call.args),.i x.code,.l (dL x.tells)]) L_k13 rfl ?_
  refine WR.ev (vs := [.i x.call.client,.i x.call.seq,.i x.call.act,.l (dL x.call.args)]) (ev_toPlnCall x.call hf.1) rfl rfl rfl ?_
  simp only [sCA,sNA]
  refine WR.ev (vs := [.i x.code,.l (dL x.tells)]) (ev_toResResult x.code x.tells hf.2) rfl rfl rfl ?_
  simp only [sCA,sNA]
  exact WR.done rfl
theorem ev_toConClientS (l : List Con) (hf : fitL fitCon l) : Ev L f_k14 [.s (dCn l)] [.s (dCn l)] := by
  refine Ev.eq (vs := [.l (dCn l)]) L_k14 rfl ?_
  have hlen : (dCn l).length = l.length := by simp [dCn]
  have hl := hf.1
  refine WR.chk (by show decide ((0 : Int) ≤ ((dCn l).length : Int)) = true; simp) ?_
  refine WR.chkN (dCn l) 2000000 (by omega) (by omega) rfl ?_
  refine WR.forP (dCn l).length (fun i => [.l ((dCn l).take i ++ List.replicate ((dCn l).length - i) (Con.g ⟨0,false,⟨0,0,0,[]⟩,0,[]⟩)),.i i]) (fun _ => True) rfl ?_ trivial fun i hi _ => ?_
  · show [V.l (List.replicate ((dCn l).length : Int).toNat (Con.g ⟨0,false,⟨0,0,0,[]⟩,0,[]⟩)),V.i 0] = _
    simp
  simp only [sCA,sNA]
  refine WR.iteLen i (ds := dCn l) rfl rfl (fun h => ?_) (fun h => WR.esc (WR.done ?_))
  · obtain ⟨x,hx,hm⟩ := some_at (show i < l.length by omega)
    refine WR.idxN (vs := [.i x.seq,.b x.busy,.i x.call.client,.i x.call.seq,.i x.call.act,.l (dL x.call.args),.i x.code,.l (dL x.tells)]) i (map_at (f := Con.g) hx) rfl rfl rfl rfl ?_
    simp only [sCA,sNA]
    refine WR.ev (vs := [.i x.seq,.b x.busy,.i x.call.client,.i x.call.seq,.i x.call.act,.l (dL x.call.args),.i x.code,.l (dL x.tells)]) (ev_toConClient x (hf.2 x hm)) rfl rfl rfl ?_
    simp only [sCA,sNA]
    refine WR.atN (vs := [.i 0,.b false,.i 0,.i 0,.i 0,.l [],.i 0,.l []]) (ds := (dCn l).take i ++ List.replicate ((dCn l).length - i) (Con.g ⟨0,false,⟨0,0,0,[]⟩,0,[]⟩)) i (fill_at h) rfl rfl rfl rfl rfl rfl ?_
    refine WR.nextA (vs := [.l ((dCn l).take (i + 1) ++ List.replicate ((dCn l).length - (i + 1)) (Con.g ⟨0,false,⟨0,0,0,[]⟩,0,[]⟩)),.i ((i + 1 : Nat) : Int)]) ?_ ⟨h,rfl,trivial⟩
    show [V.l (((dCn l).take i ++ List.replicate ((dCn l).length - i) (Con.g ⟨0,false,⟨0,0,0,[]⟩,0,[]⟩)).set (i : Int).toNat (Con.g x)),V.i (IntKind.i64.wrap ((i : Int) + 1))] = _
    rw [wS h (by omega),Int.toNat_natCast,fill_set (es := dCn l) (map_at (f := Con.g) hx)]
  · show [D.s ((dCn l).take i ++ List.replicate ((dCn l).length - i) (Con.g ⟨0,false,⟨0,0,0,[]⟩,0,[]⟩))] = _
    rw [fill_end h]
theorem ev_toLogDone (x : LogD) (hf : fitLogD x) : Ev L f_k17 x.cells x.cells := by
  refine Ev.eq (vs := [.i x.call.client,.i x.call.seq,.i x.call.act,.l (dL x.call.args),.i x.code,.l (dL x.tells)]) L_k17 rfl ?_
  refine WR.ev (vs := [.i x.call.client,.i x.call.seq,.i x.call.act,.l (dL x.call.args)]) (ev_toPlnCall x.call hf.1) rfl rfl rfl ?_
  simp only [sCA,sNA]
  refine WR.ev (vs := [.i x.code,.l (dL x.tells)]) (ev_toResResult x.code x.tells hf.2) rfl rfl rfl ?_
  simp only [sCA,sNA]
  exact WR.done rfl
theorem ev_toLogDoneS (l : List LogD) (hf : fitL fitLogD l) : Ev L f_k18 [.s (dLg l)] [.s (dLg l)] := by
  refine Ev.eq (vs := [.l (dLg l)]) L_k18 rfl ?_
  have hlen : (dLg l).length = l.length := by simp [dLg]
  have hl := hf.1
  refine WR.chk (by show decide ((0 : Int) ≤ ((dLg l).length : Int)) = true; simp) ?_
  refine WR.chkN (dLg l) 2000000 (by omega) (by omega) rfl ?_
  refine WR.forP (dLg l).length (fun i => [.l ((dLg l).take i ++ List.replicate ((dLg l).length - i) (LogD.g ⟨⟨0,0,0,[]⟩,0,[]⟩)),.i i]) (fun _ => True) rfl ?_ trivial fun i hi _ => ?_
  · show [V.l (List.replicate ((dLg l).length : Int).toNat (LogD.g ⟨⟨0,0,0,[]⟩,0,[]⟩)),V.i 0] = _
    simp
  simp only [sCA,sNA]
  refine WR.iteLen i (ds := dLg l) rfl rfl (fun h => ?_) (fun h => WR.esc (WR.done ?_))
  · obtain ⟨x,hx,hm⟩ := some_at (show i < l.length by omega)
    refine WR.idxN (vs := [.i x.call.client,.i x.call.seq,.i x.call.act,.l (dL x.call.args),.i x.code,.l (dL x.tells)]) i (map_at (f := LogD.g) hx) rfl rfl rfl rfl ?_
    simp only [sCA,sNA]
    refine WR.ev (vs := [.i x.call.client,.i x.call.seq,.i x.call.act,.l (dL x.call.args),.i x.code,.l (dL x.tells)]) (ev_toLogDone x (hf.2 x hm)) rfl rfl rfl ?_
    simp only [sCA,sNA]
    refine WR.atN (vs := [.i 0,.i 0,.i 0,.l [],.i 0,.l []]) (ds := (dLg l).take i ++ List.replicate ((dLg l).length - i) (LogD.g ⟨⟨0,0,0,[]⟩,0,[]⟩)) i (fill_at h) rfl rfl rfl rfl rfl rfl ?_
    refine WR.nextA (vs := [.l ((dLg l).take (i + 1) ++ List.replicate ((dLg l).length - (i + 1)) (LogD.g ⟨⟨0,0,0,[]⟩,0,[]⟩)),.i ((i + 1 : Nat) : Int)]) ?_ ⟨h,rfl,trivial⟩
    show [V.l (((dLg l).take i ++ List.replicate ((dLg l).length - i) (LogD.g ⟨⟨0,0,0,[]⟩,0,[]⟩)).set (i : Int).toNat (LogD.g x)),V.i (IntKind.i64.wrap ((i : Int) + 1))] = _
    rw [wS h (by omega),Int.toNat_natCast,fill_set (es := dLg l) (map_at (f := LogD.g) hx)]
  · show [D.s ((dLg l).take i ++ List.replicate ((dLg l).length - i) (LogD.g ⟨⟨0,0,0,[]⟩,0,[]⟩))] = _
    rw [fill_end h]
theorem ev_toSitSiteS (l : List Sit) (hf : fitL fitSit l) : Ev L f_kx [.s (dSt l)] [.s (dSt l)] := by
  refine Ev.eq (vs := [.l (dSt l)]) L_kx rfl ?_
  have hlen : (dSt l).length = l.length := by simp [dSt]
  have hl := hf.1
  refine WR.chk (by show decide ((0 : Int) ≤ ((dSt l).length : Int)) = true; simp) ?_
  refine WR.chkN (dSt l) 2000000 (by omega) (by omega) rfl ?_
  refine WR.forP (dSt l).length (fun i => [.l ((dSt l).take i ++ List.replicate ((dSt l).length - i) (Sit.g ⟨false,false,0,[],[],[]⟩)),.i i]) (fun _ => True) rfl ?_ trivial fun i hi _ => ?_
  · show [V.l (List.replicate ((dSt l).length : Int).toNat (Sit.g ⟨false,false,0,[],[],[]⟩)),V.i 0] = _
    simp
  simp only [sCA,sNA]
  refine WR.iteLen i (ds := dSt l) rfl rfl (fun h => ?_) (fun h => WR.esc (WR.done ?_))
  · obtain ⟨x,hx,hm⟩ := some_at (show i < l.length by omega)
    refine WR.idxN (vs := [.b x.up,.b x.frozen,.i x.round,.l (dL x.base),.l (dL x.added),.l (dDs x.done)]) i (map_at (f := Sit.g) hx) rfl rfl rfl rfl ?_
    simp only [sCA,sNA]
    refine WR.ev (vs := [.b x.up,.b x.frozen,.i x.round,.l (dL x.base),.l (dL x.added),.l (dDs x.done)]) (ev_toSitSite x (hf.2 x hm)) rfl rfl rfl ?_
    simp only [sCA,sNA]
    refine WR.atN (vs := [.b false,.b false,.i 0,.l [],.l [],.l []]) (ds := (dSt l).take i ++ List.replicate ((dSt l).length - i) (Sit.g ⟨false,false,0,[],[],[]⟩)) i (fill_at h) rfl rfl rfl rfl rfl rfl ?_
    refine WR.nextA (vs := [.l ((dSt l).take (i + 1) ++ List.replicate ((dSt l).length - (i + 1)) (Sit.g ⟨false,false,0,[],[],[]⟩)),.i ((i + 1 : Nat) : Int)]) ?_ ⟨h,rfl,trivial⟩
    show [V.l (((dSt l).take i ++ List.replicate ((dSt l).length - i) (Sit.g ⟨false,false,0,[],[],[]⟩)).set (i : Int).toNat (Sit.g x)),V.i (IntKind.i64.wrap ((i : Int) + 1))] = _
    rw [wS h (by omega),Int.toNat_natCast,fill_set (es := dSt l) (map_at (f := Sit.g) hx)]
  · show [D.s ((dSt l).take i ++ List.replicate ((dSt l).length - i) (Sit.g ⟨false,false,0,[],[],[]⟩))] = _
    rw [fill_end h]
theorem ev_toMsgMsgS (l : List Msg) (hf : fitL fitMsg l) : Ev L f_k16 [.s (dMs l)] [.s (dMs l)] := by
  refine Ev.eq (vs := [.l (dMs l)]) L_k16 rfl ?_
  have hlen : (dMs l).length = l.length := by simp [dMs]
  have hl := hf.1
  refine WR.chk (by show decide ((0 : Int) ≤ ((dMs l).length : Int)) = true; simp) ?_
  refine WR.chkN (dMs l) 2000000 (by omega) (by omega) rfl ?_
  refine WR.forP (dMs l).length (fun i => [.l ((dMs l).take i ++ List.replicate ((dMs l).length - i) (Msg.g ⟨0,0,0,0,⟨0,0,0,[]⟩,[],[],[]⟩)),.i i]) (fun _ => True) rfl ?_ trivial fun i hi _ => ?_
  · show [V.l (List.replicate ((dMs l).length : Int).toNat (Msg.g ⟨0,0,0,0,⟨0,0,0,[]⟩,[],[],[]⟩)),V.i 0] = _
    simp
  simp only [sCA,sNA]
  refine WR.iteLen i (ds := dMs l) rfl rfl (fun h => ?_) (fun h => WR.esc (WR.done ?_))
  · obtain ⟨x,hx,hm⟩ := some_at (show i < l.length by omega)
    refine WR.idxN (vs := [.i x.kind,.i x.to,.i x.frm,.i x.round,.i x.call.client,.i x.call.seq,.i x.call.act,.l (dL x.call.args),.l (dL x.vals),.l (dL x.seqs),.l (dDs x.done)]) i (map_at (f := Msg.g) hx) rfl rfl rfl rfl ?_
    simp only [sCA,sNA]
    refine WR.ev (vs := [.i x.kind,.i x.to,.i x.frm,.i x.round,.i x.call.client,.i x.call.seq,.i x.call.act,.l (dL x.call.args),.l (dL x.vals),.l (dL x.seqs),.l (dDs x.done)]) (ev_toMsgMsg x (hf.2 x hm)) rfl rfl rfl ?_
    simp only [sCA,sNA]
    refine WR.atN (vs := [.i 0,.i 0,.i 0,.i 0,.i 0,.i 0,.i 0,.l [],.l [],.l [],.l []]) (ds := (dMs l).take i ++ List.replicate ((dMs l).length - i) (Msg.g ⟨0,0,0,0,⟨0,0,0,[]⟩,[],[],[]⟩)) i (fill_at h) rfl rfl rfl rfl rfl rfl ?_
    refine WR.nextA (vs := [.l ((dMs l).take (i + 1) ++ List.replicate ((dMs l).length - (i + 1)) (Msg.g ⟨0,0,0,0,⟨0,0,0,[]⟩,[],[],[]⟩)),.i ((i + 1 : Nat) : Int)]) ?_ ⟨h,rfl,trivial⟩
    show [V.l (((dMs l).take i ++ List.replicate ((dMs l).length - i) (Msg.g ⟨0,0,0,0,⟨0,0,0,[]⟩,[],[],[]⟩)).set (i : Int).toNat (Msg.g x)),V.i (IntKind.i64.wrap ((i : Int) + 1))] = _
    rw [wS h (by omega),Int.toNat_natCast,fill_set (es := dMs l) (map_at (f := Msg.g) hx)]
  · show [D.s ((dMs l).take i ++ List.replicate ((dMs l).length - i) (Msg.g ⟨0,0,0,0,⟨0,0,0,[]⟩,[],[],[]⟩))] = _
    rw [fill_end h]
theorem ev_eqMsgMsgS (a : List Msg) (hl : fitL fitMsg a) : Ev L f_k5l [.s (dMs a),.s (dMs a)] [dB true] :=
  ev_selfC (g := f_k5k) (sh := .g [.i .i64,.i .i64,.i .i64,.i .i64,.i .i64,.i .i64,.i .i64,.s,.s,.s,.s]) (as := [(.vi .i64 (.v 3)),(.vi .i64 (.v 4)),(.vi .i64 (.v 5)),(.vi .i64 (.v 6)),(.vi .i64 (.v 7)),(.vi .i64 (.v 8)),(.vi .i64 (.v 9)),(.s (.v 10)),(.s (.v 11)),(.s (.v 12)),(.s (.v 13)),(.vi .i64 (.v 14)),(.vi .i64 (.v 15)),(.vi .i64 (.v 16)),(.vi .i64 (.v 17)),(.vi .i64 (.v 18)),(.vi .i64 (.v 19)),(.vi .i64 (.v 20)),(.s (.v 21)),(.s (.v 22)),(.s (.v 23)),(.s (.v 24))]) (k1 := 14) (k2 := 25)
    Msg.g (fun x => [.i x.kind,.i x.to,.i x.frm,.i x.round,.i x.call.client,.i x.call.seq,.i x.call.act,.l (dL x.call.args),.l (dL x.vals),.l (dL x.seqs),.l (dDs x.done)]) Msg.cells a L_k5l rfl (fun _ => rfl) (fun _ => rfl) (fun _ => rfl) (fun _ _ _ _ _ => rfl) (fun x hx => ev_eqMsgMsg x (hl.2 x hx)) hl.1
theorem ev_eqLogDone (x : LogD) (hx : fitLogD x) : Ev L f_k5m (x.cells ++ x.cells) [dB true] := by
  refine Ev.eq (vs := [.i x.call.client,.i x.call.seq,.i x.call.act,.l (dL x.call.args),.i x.code,.l (dL x.tells),.i x.call.client,.i x.call.seq,.i x.call.act,.l (dL x.call.args),.i x.code,.l (dL x.tells)]) L_k5m rfl ?_
  have h1 := ev_eqPlnCall x.call x.call hx.1
  have h2 := ev_eqResResult x.code x.code x.tells x.tells hx.2
  rw [decide_eq_true rfl] at h1
  rw [decide_eq_true rfl,decide_eq_true rfl] at h2
  refine WR.ev h1 rfl rfl rfl (WR.iteF rfl ?_)
  exact WR.ev h2 rfl rfl rfl (WR.iteF rfl (WR.done rfl))
theorem ev_eqLogDoneS (a : List LogD) (hl : fitL fitLogD a) : Ev L f_k5n [.s (dLg a),.s (dLg a)] [dB true] :=
  ev_selfC (g := f_k5m) (sh := .g [.i .i64,.i .i64,.i .i64,.s,.i .i64,.s]) (as := [(.vi .i64 (.v 3)),(.vi .i64 (.v 4)),(.vi .i64 (.v 5)),(.s (.v 6)),(.vi .i64 (.v 7)),(.s (.v 8)),(.vi .i64 (.v 9)),(.vi .i64 (.v 10)),(.vi .i64 (.v 11)),(.s (.v 12)),(.vi .i64 (.v 13)),(.s (.v 14))]) (k1 := 9) (k2 := 15)
    LogD.g (fun x => [.i x.call.client,.i x.call.seq,.i x.call.act,.l (dL x.call.args),.i x.code,.l (dL x.tells)]) LogD.cells a L_k5n rfl (fun _ => rfl) (fun _ => rfl) (fun _ => rfl) (fun _ _ _ _ _ => rfl) (fun x hx => ev_eqLogDone x (hl.2 x hx)) hl.1
structure Wrl where
  p : Pln
  sites : List Sit
  c : Clk
  cons : List Con
  net : List Msg
  log : List LogD
def Wrl.cells (w : Wrl) : List D := w.p.cells ++ [.s (dSt w.sites)] ++ w.c.cells ++ [.s (dCn w.cons),.s (dMs w.net),.s (dLg w.log)]
structure fitWrl (w : Wrl) : Prop where
  p : fitPln w.p
  s : fitL fitSit w.sites
  c : fitClk w.c
  n : fitL fitCon w.cons
  m : fitL fitMsg w.net
  l : fitL fitLogD w.log
structure bigWrl (w : Wrl) : Prop where
  p : bigPln w.p
  s : bigL bigSit w.sites
  c : bigClk w.c
  n : bigL bigCon w.cons
  m : bigL bigMsg w.net
  l : bigL bigLogD w.log
def szWrl (w : Wrl) : Nat := szPln w.p + szL szSit w.sites + szClk w.c + szL szCon w.cons + szL szMsg w.net + szL szLogD w.log
theorem fitWrl_of {w : Wrl} (h : szWrl w ≤ 1048576) : fitWrl w := by
  unfold szWrl at h
  exact ⟨fitPln_of (by omega),fitL_of (f := szSit) (p := fitSit) (fun _ => fitSit_of) (by omega),fitClk_of (by omega),fitL_of (f := szCon) (p := fitCon) (fun _ => fitCon_of) (by omega),fitL_of (f := szMsg) (p := fitMsg) (fun _ => fitMsg_of) (by omega),fitL_of (f := szLogD) (p := fitLogD) (fun _ => fitLogD_of) (by omega)⟩
theorem ev_szWldWorld (w : Wrl) (left : Int) (hb : bigWrl w) (h0 : 0 ≤ left) (h1 : left ≤ 1048576) : Ev L f_km (w.cells ++ [dI left]) [dI (dec left (szWrl w))] := by
  refine Ev.eq (vs := [.i w.p.n,.l (dActs w.p.acts),.l (dL w.p.gives),.l (dL w.p.start),.l (dSt w.sites),.b w.c.up,.i w.c.round,.l (dL w.c.base),.l (dDs w.c.done),.l (dCs w.c.wants),.l (dGs w.c.got),.l (dCn w.cons),.l (dMs w.net),.l (dLg w.log),.i left]) L_km rfl ?_
  refine WR.ev (ev_szPlnPlan w.p left hb.p h0 h1) rfl rfl rfl ?_
  simp only [sCA,sNA]
  have hr0 := dec_room (n := szPln w.p) h0 h1
  refine WR.iteP (dec left (szPln w.p) < 0) rfl (fun h => WR.done ?_) (fun h => ?_)
  · show [dI (-1)] = _
    rw [show szWrl w = szPln w.p + (szL szSit w.sites + szClk w.c + szL szCon w.cons + szL szMsg w.net + szL szLogD w.log) by unfold szWrl; omega,dec_lt h h0]
  refine WR.ev (ev_szSitSiteS w.sites (dec left (szPln w.p)) hb.s (by omega) (by omega)) rfl rfl rfl ?_
  simp only [sCA,sNA]
  have hr1 := dec_room (n := szPln w.p + szL szSit w.sites) h0 h1
  rw [dec_dec h]
  refine WR.iteP (dec left (szPln w.p + szL szSit w.sites) < 0) rfl (fun h => WR.done ?_) (fun h => ?_)
  · show [dI (-1)] = _
    rw [show szWrl w = szPln w.p + szL szSit w.sites + (szClk w.c + szL szCon w.cons + szL szMsg w.net + szL szLogD w.log) by unfold szWrl; omega,dec_lt h h0]
  refine WR.ev (ev_szClkClerk w.c (dec left (szPln w.p + szL szSit w.sites)) hb.c (by omega) (by omega)) rfl rfl rfl ?_
  simp only [sCA,sNA]
  have hr2 := dec_room (n := szPln w.p + szL szSit w.sites + szClk w.c) h0 h1
  rw [dec_dec h]
  refine WR.iteP (dec left (szPln w.p + szL szSit w.sites + szClk w.c) < 0) rfl (fun h => WR.done ?_) (fun h => ?_)
  · show [dI (-1)] = _
    rw [show szWrl w = szPln w.p + szL szSit w.sites + szClk w.c + (szL szCon w.cons + szL szMsg w.net + szL szLogD w.log) by unfold szWrl; omega,dec_lt h h0]
  refine WR.ev (ev_szConClientS w.cons (dec left (szPln w.p + szL szSit w.sites + szClk w.c)) hb.n (by omega) (by omega)) rfl rfl rfl ?_
  simp only [sCA,sNA]
  have hr3 := dec_room (n := szPln w.p + szL szSit w.sites + szClk w.c + szL szCon w.cons) h0 h1
  rw [dec_dec h]
  refine WR.iteP (dec left (szPln w.p + szL szSit w.sites + szClk w.c + szL szCon w.cons) < 0) rfl (fun h => WR.done ?_) (fun h => ?_)
  · show [dI (-1)] = _
    rw [show szWrl w = szPln w.p + szL szSit w.sites + szClk w.c + szL szCon w.cons + (szL szMsg w.net + szL szLogD w.log) by unfold szWrl; omega,dec_lt h h0]
  refine WR.ev (ev_szMsgMsgS w.net (dec left (szPln w.p + szL szSit w.sites + szClk w.c + szL szCon w.cons)) hb.m (by omega) (by omega)) rfl rfl rfl ?_
  simp only [sCA,sNA]
  have hr4 := dec_room (n := szPln w.p + szL szSit w.sites + szClk w.c + szL szCon w.cons + szL szMsg w.net) h0 h1
  rw [dec_dec h]
  refine WR.iteP (dec left (szPln w.p + szL szSit w.sites + szClk w.c + szL szCon w.cons + szL szMsg w.net) < 0) rfl (fun h => WR.done ?_) (fun h => ?_)
  · show [dI (-1)] = _
    rw [show szWrl w = szPln w.p + szL szSit w.sites + szClk w.c + szL szCon w.cons + szL szMsg w.net + (szL szLogD w.log) by unfold szWrl; omega,dec_lt h h0]
  refine WR.ev (ev_szLogDoneS w.log (dec left (szPln w.p + szL szSit w.sites + szClk w.c + szL szCon w.cons + szL szMsg w.net)) hb.l (by omega) (by omega)) rfl rfl rfl ?_
  simp only [sCA,sNA]
  have hr5 := dec_room (n := szPln w.p + szL szSit w.sites + szClk w.c + szL szCon w.cons + szL szMsg w.net + szL szLogD w.log) h0 h1
  rw [dec_dec h]
  refine WR.iteP (dec left (szPln w.p + szL szSit w.sites + szClk w.c + szL szCon w.cons + szL szMsg w.net + szL szLogD w.log) < 0) rfl (fun h => WR.done ?_) (fun h => WR.done rfl)
  show [dI (-1)] = [dI (dec left (szWrl w))]
  have e : dec left (szWrl w) = dec left (szPln w.p + szL szSit w.sites + szClk w.c + szL szCon w.cons + szL szMsg w.net + szL szLogD w.log) := rfl
  rw [e,show dec left (szPln w.p + szL szSit w.sites + szClk w.c + szL szCon w.cons + szL szMsg w.net + szL szLogD w.log) = -1 by omega]
theorem ev_toWldWorld (w : Wrl) (hf : fitWrl w) : Ev L f_k19 w.cells w.cells := by
  refine Ev.eq (vs := [.i w.p.n,.l (dActs w.p.acts),.l (dL w.p.gives),.l (dL w.p.start),.l (dSt w.sites),.b w.c.up,.i w.c.round,.l (dL w.c.base),.l (dDs w.c.done),.l (dCs w.c.wants),.l (dGs w.c.got),.l (dCn w.cons),.l (dMs w.net),.l (dLg w.log)]) L_k19 rfl ?_
  refine WR.ev (vs := [.i w.p.n,.l (dActs w.p.acts),.l (dL w.p.gives),.l (dL w.p.start)]) (ev_toPlnPlan w.p hf.p) rfl rfl rfl ?_
  simp only [sCA,sNA]
  refine WR.ev (vs := [.l (dSt w.sites)]) (ev_toSitSiteS w.sites hf.s) rfl rfl rfl ?_
  simp only [sCA,sNA]
  refine WR.ev (vs := [.b w.c.up,.i w.c.round,.l (dL w.c.base),.l (dDs w.c.done),.l (dCs w.c.wants),.l (dGs w.c.got)]) (ev_toClkClerk w.c hf.c) rfl rfl rfl ?_
  simp only [sCA,sNA]
  refine WR.ev (vs := [.l (dCn w.cons)]) (ev_toConClientS w.cons hf.n) rfl rfl rfl ?_
  simp only [sCA,sNA]
  refine WR.ev (vs := [.l (dMs w.net)]) (ev_toMsgMsgS w.net hf.m) rfl rfl rfl ?_
  simp only [sCA,sNA]
  refine WR.ev (vs := [.l (dLg w.log)]) (ev_toLogDoneS w.log hf.l) rfl rfl rfl ?_
  simp only [sCA,sNA]
  exact WR.done rfl
theorem ev_eqWrl (w : Wrl) (hf : fitWrl w) : Ev L f_k5o (w.cells ++ w.cells) [dB true] := by
  refine Ev.eq (vs := [.i w.p.n,.l (dActs w.p.acts),.l (dL w.p.gives),.l (dL w.p.start),.l (dSt w.sites),.b w.c.up,.i w.c.round,.l (dL w.c.base),.l (dDs w.c.done),.l (dCs w.c.wants),.l (dGs w.c.got),.l (dCn w.cons),.l (dMs w.net),.l (dLg w.log),.i w.p.n,.l (dActs w.p.acts),.l (dL w.p.gives),.l (dL w.p.start),.l (dSt w.sites),.b w.c.up,.i w.c.round,.l (dL w.c.base),.l (dDs w.c.done),.l (dCs w.c.wants),.l (dGs w.c.got),.l (dCn w.cons),.l (dMs w.net),.l (dLg w.log)]) L_k5o rfl ?_
  refine WR.ev (ev_eqPlnPlan w.p hf.p) rfl rfl rfl (WR.iteF rfl ?_)
  simp only [sCA,sNA]
  refine WR.ev (ev_eqSitSiteS w.sites hf.s.1 hf.s.2) rfl rfl rfl (WR.iteF rfl ?_)
  simp only [sCA,sNA]
  refine WR.ev (ev_eqClkClerk w.c hf.c) rfl rfl rfl (WR.iteF rfl ?_)
  simp only [sCA,sNA]
  refine WR.ev (ev_eqConClientS w.cons hf.n.1 hf.n.2) rfl rfl rfl (WR.iteF rfl ?_)
  simp only [sCA,sNA]
  refine WR.ev (ev_eqMsgMsgS w.net hf.m) rfl rfl rfl (WR.iteF rfl ?_)
  simp only [sCA,sNA]
  exact WR.ev (ev_eqLogDoneS w.log hf.l) rfl rfl rfl (WR.iteF rfl (WR.done rfl))
def conOk (p : Pln) (k : Int) (x : Con) : Bool := donOk ⟨x.seq,x.code,x.tells⟩ && (if x.busy then callOk p x.call && (decide (x.call.client = k) && decide (x.call.seq = x.seq + 1)) else noneC x.call)
theorem ev_l10Client (p : Pln) (x : Con) (k : Int) (hp : fitPln p) (h1 : 1 ≤ p.n) (h2 : p.n ≤ 4) (hx : fitCon x) : Ev L f_k2b (p.cells ++ x.cells ++ [dI k]) [dB (conOk p k x)] := by
  refine Ev.eq (vs := [.i p.n,.l (dActs p.acts),.l (dL p.gives),.l (dL p.start),.i x.seq,.b x.busy,.i x.call.client,.i x.call.seq,.i x.call.act,.l (dL x.call.args),.i x.code,.l (dL x.tells),.i k]) L_k2b rfl ?_
  have bad : donOk ⟨x.seq,x.code,x.tells⟩ = false → [dB false] = [dB (conOk p k x)] := fun h => by unfold conOk; rw [h]; rfl
  refine WR.ev (ev_l1In x.seq 0 300) rfl rfl rfl ?_
  simp only [sCA,sNA]
  refine WR.iteN (inB x.seq 0 300) rfl (fun b => WR.done (bad ?_)) (fun b => ?_)
  · unfold donOk
    rw [if_neg (by intro e; have e : x.seq = 0 := e; rw [e] at b; simp [inB] at b)]
    have : inB x.seq 1 300 = false := by
      unfold inB at b ⊢
      simp only [Bool.and_eq_false_iff,decide_eq_false_iff_not] at b ⊢
      omega
    show (inB x.seq 1 300 && _) = false
    rw [this]; rfl
  have hc : donOk ⟨x.seq,x.code,x.tells⟩ = if decide (x.seq = 0) = decide (x.code = 0) then (if x.seq = 0 then decide (x.tells.length = 0) else resOk x.code x.tells) else false := donOk_cases (d := ⟨x.seq,x.code,x.tells⟩) b
  have hsq : 0 ≤ x.seq ∧ x.seq ≤ 300 := by unfold inB at b; simp only [Bool.and_eq_true,decide_eq_true_eq] at b; exact b
  refine WR.iteN (decide (x.seq = 0) == decide (x.code = 0)) rfl (fun e => WR.done (bad (by rw [hc,if_neg (by simpa using e)]))) (fun e => ?_)
  rw [if_pos (by simpa using e)] at hc
  have hv : donOk ⟨x.seq,x.code,x.tells⟩ = true → conOk p k x = (if x.busy then callOk p x.call && (decide (x.call.client = k) && decide (x.call.seq = x.seq + 1)) else noneC x.call) := fun h => by unfold conOk; rw [h]; rfl
  refine WR.iteP (x.seq = 0) rfl (fun h0 => ?_) (fun h0 => ?_)
  · rw [if_pos h0] at hc
    refine WR.iteP (0 < ((dL x.tells).length : Int)) rfl (fun ht => WR.done (bad ?_)) (fun ht => ?_)
    · rw [dL_len] at ht
      rw [hc]; exact decide_eq_false (by omega)
    have hv := hv (by rw [dL_len] at ht; rw [hc]; exact decide_eq_true (by omega))
    refine WR.iteF (by show decide ((0 : Int) < x.seq) = false; rw [h0]; rfl) ?_
    refine WR.iteN x.busy rfl (fun u => ?_) (fun u => ?_)
    · have hv2 : conOk p k x = noneC x.call := by rw [hv,u]; rfl
      rw [hv2]
      refine WR.iteP (x.call.client = 0) rfl (fun a => ?_) (fun a => WR.done (by show [dB false] = _; simp [noneC,a]))
      refine WR.iteP (x.call.seq = 0) rfl (fun b => ?_) (fun b => WR.done (by show [dB false] = _; simp [noneC,b]))
      refine WR.iteP (x.call.act = 0) rfl (fun d => WR.done ?_) (fun d => WR.done (by show [dB false] = _; simp [noneC,d]))
      show [dB (decide (((dL x.call.args).length : Int) = 0))] = _
      rw [em_dec _ (dL_len _)]
      simp [noneC,a,b,d]
    · have hv2 : conOk p k x = (callOk p x.call && (decide (x.call.client = k) && decide (x.call.seq = x.seq + 1))) := by rw [hv,u]; rfl
      rw [hv2]
      refine WR.ev (ev_l6Call p x.call hp h1 h2 hx.1) rfl rfl rfl ?_
      simp only [sCA,sNA]
      refine WR.iteB (callOk p x.call) rfl (fun a => ?_) (fun a => WR.done (by show [dB false] = _; rw [a]; rfl))
      refine WR.iteP (x.call.client = k) rfl (fun b => WR.done ?_) (fun b => WR.done (by show [dB false] = _; simp [b]))
      show [dB (decide (x.call.seq = IntKind.i64.wrap (x.seq + 1)))] = _
      rw [w64 (by omega) (by omega),a,decide_eq_true b]; rfl
  · rw [if_neg h0] at hc
    refine WR.iteT (by show decide ((0 : Int) < x.seq) = true; simp; omega) ?_
    refine WR.ev (ev_sResOk x.code x.tells hx.2) rfl rfl rfl ?_
    simp only [sCA,sNA]
    refine WR.iteN (resOk x.code x.tells) rfl (fun e => WR.done (bad (by rw [hc,e]))) (fun e => ?_)
    have hv := hv (by rw [hc,e])
    refine WR.iteN x.busy rfl (fun u => ?_) (fun u => ?_)
    · have hv2 : conOk p k x = noneC x.call := by rw [hv,u]; rfl
      rw [hv2]
      refine WR.iteP (x.call.client = 0) rfl (fun a => ?_) (fun a => WR.done (by show [dB false] = _; simp [noneC,a]))
      refine WR.iteP (x.call.seq = 0) rfl (fun b => ?_) (fun b => WR.done (by show [dB false] = _; simp [noneC,b]))
      refine WR.iteP (x.call.act = 0) rfl (fun d => WR.done ?_) (fun d => WR.done (by show [dB false] = _; simp [noneC,d]))
      show [dB (decide (((dL x.call.args).length : Int) = 0))] = _
      rw [em_dec _ (dL_len _)]
      simp [noneC,a,b,d]
    · have hv2 : conOk p k x = (callOk p x.call && (decide (x.call.client = k) && decide (x.call.seq = x.seq + 1))) := by rw [hv,u]; rfl
      rw [hv2]
      refine WR.ev (ev_l6Call p x.call hp h1 h2 hx.1) rfl rfl rfl ?_
      simp only [sCA,sNA]
      refine WR.iteB (callOk p x.call) rfl (fun a => ?_) (fun a => WR.done (by show [dB false] = _; rw [a]; rfl))
      refine WR.iteP (x.call.client = k) rfl (fun b => WR.done ?_) (fun b => WR.done (by show [dB false] = _; simp [b]))
      show [dB (decide (x.call.seq = IntKind.i64.wrap (x.seq + 1)))] = _
      rw [w64 (by omega) (by omega),a,decide_eq_true b]; rfl
theorem ev_conOk (p : Pln) (x : Con) (k : Int) (hp : fitPln p) (h1 : 1 ≤ p.n) (h2 : p.n ≤ 4) (hx : fitCon x) : Ev L f_k4s (x.cells ++ p.cells ++ [dI k]) [dB (conOk p k x)] := by
  refine Ev.eq (vs := [.i x.seq,.b x.busy,.i x.call.client,.i x.call.seq,.i x.call.act,.l (dL x.call.args),.i x.code,.l (dL x.tells),.i p.n,.l (dActs p.acts),.l (dL p.gives),.l (dL p.start),.i k]) L_k4s rfl ?_
  refine WR.ev (ev_donOk ⟨x.seq,x.code,x.tells⟩ hx.2) rfl rfl rfl ?_
  simp only [sCA,sNA]
  refine WR.iteN (donOk ⟨x.seq,x.code,x.tells⟩) rfl (fun e => WR.done (by show [dB false] = _; unfold conOk; rw [e]; rfl)) (fun e => ?_)
  have hsq : 0 ≤ x.seq ∧ x.seq ≤ 300 := by
    unfold donOk at e
    split at e
    · rename_i h; have h : x.seq = 0 := h; omega
    · simp only [Bool.and_eq_true,inB_iff] at e; have := e.1; omega
  have hv : conOk p k x = (if x.busy then callOk p x.call && (decide (x.call.client = k) && decide (x.call.seq = x.seq + 1)) else noneC x.call) := by unfold conOk; rw [e]; rfl
  refine WR.iteN x.busy rfl (fun u => ?_) (fun u => ?_)
  · rw [show conOk p k x = noneC x.call by rw [hv,u]; rfl]
    exact WR.ev (ev_noneC x.call) rfl rfl rfl (WR.done rfl)
  · rw [show conOk p k x = (callOk p x.call && (decide (x.call.client = k) && decide (x.call.seq = x.seq + 1))) by rw [hv,u]; rfl]
    refine WR.ev (ev_callOk p x.call hp h1 h2 hx.1) rfl rfl rfl ?_
    simp only [sCA,sNA]
    refine WR.iteB (callOk p x.call) rfl (fun a => ?_) (fun a => WR.done (by show [dB false] = _; rw [a]; rfl))
    refine WR.iteP (x.call.client = k) rfl (fun b => WR.done ?_) (fun b => WR.done (by show [dB false] = _; simp [b]))
    show [dB (decide (x.call.seq = IntKind.i64.wrap (x.seq + 1)))] = _
    rw [w64 (by omega) (by omega),a,decide_eq_true b]; rfl
def logOk1 (p : Pln) (x : LogD) : Bool := callOk p x.call && resOk x.code x.tells
def logOk (p : Pln) (l : List LogD) : Bool := decide (l.length ≤ 100) && l.all (logOk1 p)
theorem ev_l10Log (p : Pln) (l : List LogD) (hp : fitPln p) (h1 : 1 ≤ p.n) (h2 : p.n ≤ 4) (hl : fitL fitLogD l) : Ev L f_k23 (p.cells ++ [.s (dLg l)]) [dB (logOk p l)] := by
  refine Ev.eq (vs := [.i p.n,.l (dActs p.acts),.l (dL p.gives),.l (dL p.start),.l (dLg l)]) L_k23 rfl ?_
  have hlen : (dLg l).length = l.length := by simp [dLg]
  have hl0 := hl.1
  refine WR.iteP ((100 : Int) < (l.length : Int)) (by show decide ((100 : Int) < ((dLg l).length : Int)) = _; rw [hlen]) (fun h => WR.done (by show [dB false] = _; unfold logOk; rw [decide_eq_false (by omega)]; rfl)) (fun h => ?_)
  have hv : logOk p l = l.all (logOk1 p) := by unfold logOk; rw [decide_eq_true (by omega),Bool.true_and]
  rw [hv]
  refine WR.forP l.length (fun i => [.i i]) (fun i => ((l.take i).all (logOk1 p)) = true) rfl rfl rfl fun i hi hq => ?_
  simp only [sCA,sNA]
  refine WR.iteLen i hlen rfl (fun h' => ?_) (fun h' => WR.esc (WR.done ?_))
  · obtain ⟨x,hx,hm⟩ := some_at h'
    have hf := hl.2 x hm
    have bad : logOk1 p x = false → [dB false] = [dB (l.all (logOk1 p))] := fun hb => by
      have : l.all (logOk1 p) = false := by rw [← List.take_append_drop i l,List.all_append,drop_cons hx]; simp [hb]
      rw [this]
    have good : logOk1 p x = true → ((l.take (i + 1)).all (logOk1 p)) = true := fun hb => by rw [take_succ hx,List.all_append,hq]; simp [hb]
    refine WR.idxN (vs := [.i x.call.client,.i x.call.seq,.i x.call.act,.l (dL x.call.args),.i x.code,.l (dL x.tells)]) i (map_at (f := LogD.g) hx) rfl rfl rfl rfl ?_
    simp only [sCA,sNA]
    refine WR.ev (ev_l6Call p x.call hp h1 h2 hf.1) rfl rfl rfl ?_
    simp only [sCA,sNA]
    refine WR.iteN (callOk p x.call) rfl (fun a => WR.esc (WR.done (bad (by unfold logOk1; rw [a]; rfl)))) (fun a => ?_)
    refine WR.idxN (vs := [.i x.call.client,.i x.call.seq,.i x.call.act,.l (dL x.call.args),.i x.code,.l (dL x.tells)]) i (map_at (f := LogD.g) hx) rfl rfl rfl rfl ?_
    simp only [sCA,sNA]
    refine WR.ev (ev_sResOk x.code x.tells hf.2) rfl rfl rfl ?_
    simp only [sCA,sNA]
    exact WR.iteN (resOk x.code x.tells) rfl (fun b => WR.esc (WR.done (bad (by unfold logOk1; rw [a,b]; rfl)))) (fun b => WR.nextA (vs := [.i ((i + 1 : Nat) : Int)]) (by rw [← wS h' (by omega)]; rfl) ⟨h',rfl,good (by unfold logOk1; rw [a,b]; rfl)⟩)
  · show [dB true] = _
    rw [take_all h'] at hq
    rw [hq]
theorem ev_logOk_1 (p : Pln) (x : LogD) (hp : fitPln p) (h1 : 1 ≤ p.n) (h2 : p.n ≤ 4) (hf : fitLogD x) : Ev L f_k3a (x.cells ++ [.q p.cells]) [dB (!logOk1 p x)] := by
  refine Ev.eq (vs := [.i x.call.client,.i x.call.seq,.i x.call.act,.l (dL x.call.args),.i x.code,.l (dL x.tells),.d (.q p.cells)]) L_k3a rfl ?_
  refine WR.get (vs := [.i p.n,.l (dActs p.acts),.l (dL p.gives),.l (dL p.start)]) rfl rfl ?_
  simp only [sCA,sNA]
  refine WR.ev (ev_callOk p x.call hp h1 h2 hf.1) rfl rfl rfl ?_
  simp only [sCA,sNA]
  refine WR.iteN (callOk p x.call) rfl (fun a => WR.done (by show [dB true] = _; unfold logOk1; rw [a]; rfl)) (fun a => ?_)
  refine WR.ev (ev_iResOk x.code x.tells hf.2) rfl rfl rfl (WR.done ?_)
  show [dB (!resOk x.code x.tells)] = _
  unfold logOk1; rw [a,Bool.true_and]
theorem ev_hasLog (q : LogD → Bool) (l : List LogD) {fn : FuncId} {caps : List D} (hlen : l.length ≤ 2000000) (hcap : oneOf (.f fn caps) = .f fn caps) (har : arT L fn = some ([some 6] ++ caps.map fun _ => none))
    (hc : ∀ x ∈ l,Ev L fn (x.cells ++ caps.map D.norm) [dB (q x)]) : Ev L f_k3c [.s (dLg l),.f fn caps] [dB (l.any q)] :=
  ev_contains (g := f_k3b) L_k3c rfl hcap
    (ev_idxFunc (sh := .g [.i .i64,.i .i64,.i .i64,.s,.i .i64,.s]) (as := [(.vi .i64 (.v 3)),(.vi .i64 (.v 4)),(.vi .i64 (.v 5)),(.s (.v 6)),(.vi .i64 (.v 7)),(.s (.v 8))]) (ar := [some 6]) (k := 9) LogD.g q LogD.cells (fun x => [.i x.call.client,.i x.call.seq,.i x.call.act,.l (dL x.call.args),.i x.code,.l (dL x.tells)]) l
      L_k3b rfl hlen hcap (fun _ _ => rfl) (fun _ _ => rfl) (fun _ _ _ _ => rfl) har hc)
theorem ev_hasMsg (q : Msg → Bool) (l : List Msg) {fn : FuncId} {caps : List D} (hlen : l.length ≤ 2000000) (hcap : oneOf (.f fn caps) = .f fn caps) (har : arT L fn = some ([some 11] ++ caps.map fun _ => none))
    (hc : ∀ x ∈ l,Ev L fn (x.cells ++ caps.map D.norm) [dB (q x)]) : Ev L f_k50 [.s (dMs l),.f fn caps] [dB (l.any q)] :=
  ev_contains (g := f_k4z) L_k50 rfl hcap
    (ev_idxFunc (sh := .g [.i .i64,.i .i64,.i .i64,.i .i64,.i .i64,.i .i64,.i .i64,.s,.s,.s,.s]) (as := [(.vi .i64 (.v 3)),(.vi .i64 (.v 4)),(.vi .i64 (.v 5)),(.vi .i64 (.v 6)),(.vi .i64 (.v 7)),(.vi .i64 (.v 8)),(.vi .i64 (.v 9)),(.s (.v 10)),(.s (.v 11)),(.s (.v 12)),(.s (.v 13))]) (ar := [some 11]) (k := 14) Msg.g q Msg.cells (fun x => [.i x.kind,.i x.to,.i x.frm,.i x.round,.i x.call.client,.i x.call.seq,.i x.call.act,.l (dL x.call.args),.l (dL x.vals),.l (dL x.seqs),.l (dDs x.done)]) l
      L_k4z rfl hlen hcap (fun _ _ => rfl) (fun _ _ => rfl) (fun _ _ _ _ => rfl) har hc)
theorem ev_logOk (p : Pln) (l : List LogD) (hp : fitPln p) (h1 : 1 ≤ p.n) (h2 : p.n ≤ 4) (hl : fitL fitLogD l) : Ev L f_k3d (p.cells ++ [.s (dLg l)]) [dB (logOk p l)] := by
  refine Ev.eq (vs := [.i p.n,.l (dActs p.acts),.l (dL p.gives),.l (dL p.start),.l (dLg l)]) L_k3d rfl ?_
  have hlen : (dLg l).length = l.length := by simp [dLg]
  refine WR.iteP ((l.length : Int) ≤ 100) (by show decide (((dLg l).length : Int) ≤ 100) = _; rw [hlen]) (fun h => ?_) (fun h => WR.done (by show [dB false] = _; unfold logOk; rw [decide_eq_false (by omega)]; rfl))
  refine WR.ev (ev_hasLog (fun x => !logOk1 p x) l (fn := f_k3a) (caps := [.q p.cells]) hl.1 rfl rfl fun x hx => ev_logOk_1 p x hp h1 h2 (hl.2 x hx)) rfl rfl rfl (WR.done ?_)
  show [dB (!(l.any fun x => !logOk1 p x))] = _
  rw [not_any]; unfold logOk; rw [decide_eq_true (by omega),Bool.true_and]
def con1 : Con := ⟨0,false,⟨0,0,0,[]⟩,0,[]⟩
def sit0 : Sit := ⟨false,false,0,[],[],[]⟩
def wrlOk (w : Wrl) : Bool := decide (w.sites.length = w.p.gives.length) && (decide ((w.cons.length : Int) = w.p.n) && (decide (w.net.length ≤ 30) && (logOk w.p w.log &&
  (allTo w.sites.length (fun j => sitOk w.p (w.sites.getD j sit0) j) && (allTo w.cons.length (fun j => conOk w.p j (w.cons.getD j con1)) && (w.net.all (msgOk w.p) && clkOk w.p w.c))))))
def wrlOkP (w : Wrl) : Bool := plnOk w.p && wrlOk w
theorem ev_l10Ok (w : Wrl) (hf : fitWrl w) (h1 : 1 ≤ w.p.n) (h2 : w.p.n ≤ 4) (hc : catOk w.p.acts = true) : Ev L f_k2i (w.cells ++ [.s (dLL (catForms w.p.acts)),.s (dBl (catPins w.p.acts))]) [dB (wrlOk w)] := by
  refine Ev.eq (vs := [.i w.p.n,.l (dActs w.p.acts),.l (dL w.p.gives),.l (dL w.p.start),.l (dSt w.sites),.b w.c.up,.i w.c.round,.l (dL w.c.base),.l (dDs w.c.done),.l (dCs w.c.wants),.l (dGs w.c.got),.l (dCn w.cons),.l (dMs w.net),.l (dLg w.log),.l (dLL (catForms w.p.acts)),.l (dBl (catPins w.p.acts))]) L_k2i rfl ?_
  obtain ⟨fp,fs,fc,fn,fm,fl⟩ := hf
  have s0 := fs.1
  have n0 := fn.1
  have m0 := fm.1
  refine WR.iteN (decide (w.sites.length = w.p.gives.length)) (by show (!decide (((dSt w.sites).length : Int) = ((dL w.p.gives).length : Int))) = _; rw [dL_len,show (dSt w.sites).length = w.sites.length from List.length_map ..]; simp [Int.ofNat_inj]) (fun b => WR.done (by show [dB false] = _; unfold wrlOk; rw [b]; simp)) (fun a1 => ?_)
  refine WR.iteN (decide ((w.cons.length : Int) = w.p.n)) (by show (!decide (((dCn w.cons).length : Int) = w.p.n)) = _; rw [show (dCn w.cons).length = w.cons.length from List.length_map ..]) (fun b => WR.done (by show [dB false] = _; unfold wrlOk; rw [b]; simp)) (fun a2 => ?_)
  refine WR.iteP ((30 : Int) < (w.net.length : Int)) (by show decide ((30 : Int) < ((dMs w.net).length : Int)) = _; rw [show (dMs w.net).length = w.net.length from List.length_map ..]) (fun h => WR.done (by show [dB false] = _; unfold wrlOk; rw [decide_eq_false (show ¬ w.net.length ≤ 30 by omega)]; simp)) (fun h30 => ?_)
  refine WR.ev (ev_l10Log w.p w.log fp h1 h2 fl) rfl rfl rfl ?_
  simp only [sCA,sNA]
  refine WR.iteN (logOk w.p w.log) rfl (fun b => WR.done (by show [dB false] = _; unfold wrlOk; rw [b]; simp)) (fun a3 => ?_)
  have e : wrlOk w = (allTo w.sites.length (fun j => sitOk w.p (w.sites.getD j sit0) j) && (allTo w.cons.length (fun j => conOk w.p j (w.cons.getD j con1)) && (w.net.all (msgOk w.p) && clkOk w.p w.c))) := by unfold wrlOk; rw [a1,a2,a3,decide_eq_true (show w.net.length ≤ 30 by omega)]; simp only [Bool.true_and]
  rw [e]
  refine WR.forP w.sites.length (fun i => [.i i]) (fun i => allTo i (fun j => sitOk w.p (w.sites.getD j sit0) j) = true) rfl rfl rfl fun i hi hq => ?_
  simp only [sCA,sNA]
  refine WR.iteLen i (List.length_map (f := Sit.g) (as := w.sites)) rfl (fun h' => ?_) (fun h' => WR.esc ?_)
  · obtain ⟨x,hx,hm⟩ := some_at h'
    have hfi : sitOk w.p (w.sites.getD i sit0) i = sitOk w.p x i := by rw [getD_of hx]
    have bad : sitOk w.p x i = false → ∀ B : Bool,[dB false] = [dB (allTo w.sites.length (fun j => sitOk w.p (w.sites.getD j sit0) j) && B)] := fun h B => by rw [allTo_no h' (hfi.trans h)]; rfl
    have good : sitOk w.p x i = true → allTo (i + 1) (fun j => sitOk w.p (w.sites.getD j sit0) j) = true := fun h => by rw [allTo_succ,hq,hfi,h]; rfl
    refine WR.idxN (vs := [.b x.up,.b x.frozen,.i x.round,.l (dL x.base),.l (dL x.added),.l (dDs x.done)]) i (map_at (f := Sit.g) hx) rfl rfl rfl rfl ?_
    simp only [sCA,sNA]
    refine WR.ev (ev_l8Ok w.p x i fp (fs.2 x hm) hc) rfl rfl rfl ?_
    simp only [sCA,sNA]
    exact WR.iteN (sitOk w.p x i) rfl (fun e => WR.esc (WR.done (bad e _))) (fun e => WR.nextA (vs := [.i ((i + 1 : Nat) : Int)]) (by rw [← wS h' (by omega)]; rfl) ⟨h',rfl,good e⟩)
  rw [show i = w.sites.length by omega] at hq
  rw [hq,Bool.true_and]
  clear hq h' hi
  refine WR.forP w.cons.length (fun i => [.i i]) (fun i => allTo i (fun j => conOk w.p j (w.cons.getD j con1)) = true) rfl rfl rfl fun i hi hq => ?_
  simp only [sCA,sNA]
  refine WR.iteLen i (List.length_map (f := Con.g) (as := w.cons)) rfl (fun h' => ?_) (fun h' => WR.esc ?_)
  · obtain ⟨x,hx,hm⟩ := some_at h'
    have hfi : conOk w.p i (w.cons.getD i con1) = conOk w.p i x := by rw [getD_of hx]
    have bad : conOk w.p i x = false → ∀ B : Bool,[dB false] = [dB (allTo w.cons.length (fun j => conOk w.p j (w.cons.getD j con1)) && B)] := fun h B => by rw [allTo_no h' (hfi.trans h)]; rfl
    have good : conOk w.p i x = true → allTo (i + 1) (fun j => conOk w.p j (w.cons.getD j con1)) = true := fun h => by rw [allTo_succ,hq,hfi,h]; rfl
    refine WR.idxN (vs := [.i x.seq,.b x.busy,.i x.call.client,.i x.call.seq,.i x.call.act,.l (dL x.call.args),.i x.code,.l (dL x.tells)]) i (map_at (f := Con.g) hx) rfl rfl rfl rfl ?_
    simp only [sCA,sNA]
    refine WR.ev (ev_l10Client w.p x i fp h1 h2 (fn.2 x hm)) rfl rfl rfl ?_
    simp only [sCA,sNA]
    exact WR.iteN (conOk w.p i x) rfl (fun e => WR.esc (WR.done (bad e _))) (fun e => WR.nextA (vs := [.i ((i + 1 : Nat) : Int)]) (by rw [← wS h' (by omega)]; rfl) ⟨h',rfl,good e⟩)
  rw [show i = w.cons.length by omega] at hq
  rw [hq,Bool.true_and]
  clear hq h' hi
  refine WR.forP w.net.length (fun i => [.i i]) (fun i => ((w.net.take i).all (msgOk w.p)) = true) rfl rfl rfl fun i hi hq => ?_
  simp only [sCA,sNA]
  refine WR.iteLen i (List.length_map (f := Msg.g) (as := w.net)) rfl (fun h' => ?_) (fun h' => WR.esc ?_)
  · obtain ⟨x,hx,hm⟩ := some_at h'
    have bad : msgOk w.p x = false → [dB false] = [dB (w.net.all (msgOk w.p) && clkOk w.p w.c)] := fun hb => by
      have : w.net.all (msgOk w.p) = false := by rw [← List.take_append_drop i w.net,List.all_append,drop_cons hx]; simp [hb]
      rw [this]; rfl
    have good : msgOk w.p x = true → ((w.net.take (i + 1)).all (msgOk w.p)) = true := fun hb => by rw [take_succ hx,List.all_append,hq]; simp [hb]
    refine WR.idxN (vs := [.i x.kind,.i x.to,.i x.frm,.i x.round,.i x.call.client,.i x.call.seq,.i x.call.act,.l (dL x.call.args),.l (dL x.vals),.l (dL x.seqs),.l (dDs x.done)]) i (map_at (f := Msg.g) hx) rfl rfl rfl rfl ?_
    simp only [sCA,sNA]
    refine WR.ev (ev_l7Ok w.p x fp h1 h2 (fm.2 x hm)) rfl rfl rfl ?_
    simp only [sCA,sNA]
    exact WR.iteN (msgOk w.p x) rfl (fun e => WR.esc (WR.done (bad e))) (fun e => WR.nextA (vs := [.i ((i + 1 : Nat) : Int)]) (by rw [← wS h' (by omega)]; rfl) ⟨h',rfl,good e⟩)
  rw [take_all h'] at hq
  rw [hq,Bool.true_and]
  exact WR.ev (ev_l9Ok w.p w.c fp fc h1 h2 hc) rfl rfl rfl (WR.done rfl)
theorem ev_sWldOk (w : Wrl) (hf : fitWrl w) : Ev L f_k2j w.cells [dB (wrlOkP w)] := by
  refine Ev.eq (vs := [.i w.p.n,.l (dActs w.p.acts),.l (dL w.p.gives),.l (dL w.p.start),.l (dSt w.sites),.b w.c.up,.i w.c.round,.l (dL w.c.base),.l (dDs w.c.done),.l (dCs w.c.wants),.l (dGs w.c.got),.l (dCn w.cons),.l (dMs w.net),.l (dLg w.log)]) L_k2j rfl ?_
  refine WR.ev (ev_sPlnOk w.p hf.p) rfl rfl rfl ?_
  simp only [sCA,sNA]
  refine WR.iteN (plnOk w.p) rfl (fun b => WR.done (by show [dB false] = _; simp only [wrlOkP,b,Bool.false_and])) (fun a => ?_)
  obtain ⟨n1,n2,_⟩ := plnOk_n a
  have hc := plnOk_cat a
  have e1 : (both w.p.acts).1 = catForms w.p.acts := by simp [catForms,hc]
  have e2 : (both w.p.acts).2 = catPins w.p.acts := by simp [catPins,hc]
  have eB := ev_l4Both w.p.acts hf.p.1 (catOk_len hc).2.1
  rw [e1,e2] at eB
  refine WR.ev eB rfl rfl rfl ?_
  simp only [sCA,sNA]
  refine WR.ev (ev_l10Ok w hf n1 n2 hc) rfl rfl rfl (WR.done ?_)
  show [dB (wrlOk w)] = _
  simp only [wrlOkP,a,Bool.true_and]
theorem ev_WldOk_1 (p : Pln) (x : Msg) (hp : fitPln p) (h1 : 1 ≤ p.n) (h2 : p.n ≤ 4) (hx : fitMsg x) : Ev L f_k4y (x.cells ++ [.q p.cells]) [dB (!msgOk p x)] := by
  refine Ev.eq (vs := [.i x.kind,.i x.to,.i x.frm,.i x.round,.i x.call.client,.i x.call.seq,.i x.call.act,.l (dL x.call.args),.l (dL x.vals),.l (dL x.seqs),.l (dDs x.done),.d (.q p.cells)]) L_k4y rfl ?_
  refine WR.get (vs := [.i p.n,.l (dActs p.acts),.l (dL p.gives),.l (dL p.start)]) rfl rfl ?_
  simp only [sCA,sNA]
  exact WR.ev (ev_msgOk p x hp h1 h2 hx) rfl rfl rfl (WR.done rfl)
theorem ev_iWldOk (w : Wrl) (hf : fitWrl w) : Ev L f_k51 w.cells [dB (wrlOkP w)] := by
  refine Ev.eq (vs := [.i w.p.n,.l (dActs w.p.acts),.l (dL w.p.gives),.l (dL w.p.start),.l (dSt w.sites),.b w.c.up,.i w.c.round,.l (dL w.c.base),.l (dDs w.c.done),.l (dCs w.c.wants),.l (dGs w.c.got),.l (dCn w.cons),.l (dMs w.net),.l (dLg w.log)]) L_k51 rfl ?_
  obtain ⟨fp,fs,fc,fn,fm,fl⟩ := hf
  have s0 := fs.1
  have n0 := fn.1
  have m0 := fm.1
  refine WR.ev (ev_iPlnOk w.p fp) rfl rfl rfl ?_
  simp only [sCA,sNA]
  refine WR.iteN (plnOk w.p) rfl (fun b => WR.done (by show [dB false] = _; simp only [wrlOkP,b,Bool.false_and])) (fun a => ?_)
  obtain ⟨h1,h2,_⟩ := plnOk_n a
  have hc := plnOk_cat a
  rw [show wrlOkP w = wrlOk w by simp only [wrlOkP,a,Bool.true_and]]
  refine WR.iteN (decide (w.sites.length = w.p.gives.length)) (by show (!decide (((dSt w.sites).length : Int) = ((dL w.p.gives).length : Int))) = _; rw [dL_len,show (dSt w.sites).length = w.sites.length from List.length_map ..]; simp [Int.ofNat_inj]) (fun b => WR.done (by show [dB false] = _; unfold wrlOk; rw [b]; simp)) (fun a1 => ?_)
  refine WR.iteN (decide ((w.cons.length : Int) = w.p.n)) (by show (!decide (((dCn w.cons).length : Int) = w.p.n)) = _; rw [show (dCn w.cons).length = w.cons.length from List.length_map ..]) (fun b => WR.done (by show [dB false] = _; unfold wrlOk; rw [b]; simp)) (fun a2 => ?_)
  refine WR.iteP ((30 : Int) < (w.net.length : Int)) (by show decide ((30 : Int) < ((dMs w.net).length : Int)) = _; rw [show (dMs w.net).length = w.net.length from List.length_map ..]) (fun h => WR.done (by show [dB false] = _; unfold wrlOk; rw [decide_eq_false (show ¬ w.net.length ≤ 30 by omega)]; simp)) (fun h30 => ?_)
  refine WR.ev (ev_logOk w.p w.log fp h1 h2 fl) rfl rfl rfl ?_
  simp only [sCA,sNA]
  refine WR.iteN (logOk w.p w.log) rfl (fun b => WR.done (by show [dB false] = _; unfold wrlOk; rw [b]; simp)) (fun a3 => ?_)
  have e : wrlOk w = (allTo w.sites.length (fun j => sitOk w.p (w.sites.getD j sit0) j) && (allTo w.cons.length (fun j => conOk w.p j (w.cons.getD j con1)) && (w.net.all (msgOk w.p) && clkOk w.p w.c))) := by unfold wrlOk; rw [a1,a2,a3,decide_eq_true (show w.net.length ≤ 30 by omega)]; simp only [Bool.true_and]
  rw [e]
  have hlen : w.sites.length = w.p.gives.length := by simpa using a1
  refine WR.ev (ev_rulesOf w.p.acts fp.1) rfl rfl rfl ?_
  simp only [sCA,sNA]
  refine WR.forP w.sites.length (fun i => [.i i]) (fun i => allTo i (fun j => sitOk w.p (w.sites.getD j sit0) j) = true) rfl rfl rfl fun i hi hq => ?_
  simp only [sCA,sNA]
  refine WR.iteLen i (List.length_map (f := Sit.g) (as := w.sites)) rfl (fun h' => ?_) (fun h' => WR.esc ?_)
  · obtain ⟨x,hx,hm⟩ := some_at h'
    have hfi : sitOk w.p (w.sites.getD i sit0) i = sitOk w.p x i := by rw [getD_of hx]
    have bad : sitOk w.p x i = false → ∀ B : Bool,[dB false] = [dB (allTo w.sites.length (fun j => sitOk w.p (w.sites.getD j sit0) j) && B)] := fun h B => by rw [allTo_no h' (hfi.trans h)]; rfl
    have good : sitOk w.p x i = true → allTo (i + 1) (fun j => sitOk w.p (w.sites.getD j sit0) j) = true := fun h => by rw [allTo_succ,hq,hfi,h]; rfl
    have hin : siteIn w.p i = true := by unfold siteIn inB; simp only [Bool.and_eq_true,decide_eq_true_eq]; omega
    have hev := ev_siteOk w.p x i fp (fs.2 x hm) hc
    rw [hin,Bool.true_and] at hev
    refine WR.idxN (vs := [.b x.up,.b x.frozen,.i x.round,.l (dL x.base),.l (dL x.added),.l (dDs x.done)]) i (map_at (f := Sit.g) hx) rfl rfl rfl rfl ?_
    simp only [sCA,sNA]
    refine WR.ev (hev) rfl rfl rfl ?_
    simp only [sCA,sNA]
    exact WR.iteN (sitOk w.p x i) rfl (fun e => WR.esc (WR.done (bad e _))) (fun e => WR.nextA (vs := [.i ((i + 1 : Nat) : Int)]) (by rw [← wS h' (by omega)]; rfl) ⟨h',rfl,good e⟩)
  rw [show i = w.sites.length by omega] at hq
  rw [hq,Bool.true_and]
  clear hq h' hi
  refine WR.forP w.cons.length (fun i => [.i i]) (fun i => allTo i (fun j => conOk w.p j (w.cons.getD j con1)) = true) rfl rfl rfl fun i hi hq => ?_
  simp only [sCA,sNA]
  refine WR.iteLen i (List.length_map (f := Con.g) (as := w.cons)) rfl (fun h' => ?_) (fun h' => WR.esc ?_)
  · obtain ⟨x,hx,hm⟩ := some_at h'
    have hfi : conOk w.p i (w.cons.getD i con1) = conOk w.p i x := by rw [getD_of hx]
    have bad : conOk w.p i x = false → ∀ B : Bool,[dB false] = [dB (allTo w.cons.length (fun j => conOk w.p j (w.cons.getD j con1)) && B)] := fun h B => by rw [allTo_no h' (hfi.trans h)]; rfl
    have good : conOk w.p i x = true → allTo (i + 1) (fun j => conOk w.p j (w.cons.getD j con1)) = true := fun h => by rw [allTo_succ,hq,hfi,h]; rfl
    refine WR.idxN (vs := [.i x.seq,.b x.busy,.i x.call.client,.i x.call.seq,.i x.call.act,.l (dL x.call.args),.i x.code,.l (dL x.tells)]) i (map_at (f := Con.g) hx) rfl rfl rfl rfl ?_
    simp only [sCA,sNA]
    refine WR.ev (ev_conOk w.p x i fp h1 h2 (fn.2 x hm)) rfl rfl rfl ?_
    simp only [sCA,sNA]
    exact WR.iteN (conOk w.p i x) rfl (fun e => WR.esc (WR.done (bad e _))) (fun e => WR.nextA (vs := [.i ((i + 1 : Nat) : Int)]) (by rw [← wS h' (by omega)]; rfl) ⟨h',rfl,good e⟩)
  rw [show i = w.cons.length by omega] at hq
  rw [hq,Bool.true_and]
  clear hq h' hi
  refine WR.ev (ev_clerkOk w.p w.c fp fc h1 h2 hc) rfl rfl rfl ?_
  simp only [sCA,sNA]
  refine WR.iteB (clkOk w.p w.c) rfl (fun b => ?_) (fun b => WR.done (by show [dB false] = _; rw [b,Bool.and_false]))
  refine WR.ev (ev_hasMsg (fun x => !msgOk w.p x) w.net (fn := f_k4y) (caps := [.q w.p.cells]) fm.1 rfl rfl fun x hx => ev_WldOk_1 w.p x fp h1 h2 (fm.2 x hx)) rfl rfl rfl (WR.done ?_)
  show [dB (!(w.net.any fun x => !msgOk w.p x))] = _
  rw [not_any,b,Bool.and_true]
theorem ev_FnExactWldOk (w : Wrl) (hb : bigWrl w) : Ev L f_k5p w.cells [dB true] := by
  refine Ev.eq (vs := [.i w.p.n,.l (dActs w.p.acts),.l (dL w.p.gives),.l (dL w.p.start),.l (dSt w.sites),.b w.c.up,.i w.c.round,.l (dL w.c.base),.l (dDs w.c.done),.l (dCs w.c.wants),.l (dGs w.c.got),.l (dCn w.cons),.l (dMs w.net),.l (dLg w.log)]) L_k5p rfl ?_
  refine WR.ev (ev_szWldWorld w 1048576 hb (by omega) (by omega)) rfl rfl rfl ?_
  simp only [sCA,sNA]
  refine WR.iteP (dec 1048576 (szWrl w) < 0) rfl (fun _ => WR.done rfl) (fun h => ?_)
  have hsz : szWrl w ≤ 1048576 := by have := dec_le h; omega
  have hf : fitWrl w := fitWrl_of hsz
  have hto := ev_toWldWorld w hf
  have hs := ev_sWldOk w hf
  have hi := ev_iWldOk w hf
  generalize wrlOkP w = m at *
  refine WR.ev (vs := [.i w.p.n,.l (dActs w.p.acts),.l (dL w.p.gives),.l (dL w.p.start),.l (dSt w.sites),.b w.c.up,.i w.c.round,.l (dL w.c.base),.l (dDs w.c.done),.l (dCs w.c.wants),.l (dGs w.c.got),.l (dCn w.cons),.l (dMs w.net),.l (dLg w.log)]) hto rfl rfl rfl ?_
  simp only [sCA,sNA]
  refine WR.ev hs rfl rfl rfl ?_
  simp only [sCA,sNA]
  refine WR.ev (vs := [.i w.p.n,.l (dActs w.p.acts),.l (dL w.p.gives),.l (dL w.p.start),.l (dSt w.sites),.b w.c.up,.i w.c.round,.l (dL w.c.base),.l (dDs w.c.done),.l (dCs w.c.wants),.l (dGs w.c.got),.l (dCn w.cons),.l (dMs w.net),.l (dLg w.log)]) hto rfl rfl rfl ?_
  simp only [sCA,sNA]
  refine WR.ev hi rfl rfl rfl ?_
  simp only [sCA,sNA]
  refine WR.iteF (by show (!(m == m)) = false; simp) ?_
  refine WR.ev (vs := [.i w.p.n,.l (dActs w.p.acts),.l (dL w.p.gives),.l (dL w.p.start),.l (dSt w.sites),.b w.c.up,.i w.c.round,.l (dL w.c.base),.l (dDs w.c.done),.l (dCs w.c.wants),.l (dGs w.c.got),.l (dCn w.cons),.l (dMs w.net),.l (dLg w.log)]) hto rfl rfl rfl ?_
  simp only [sCA,sNA]
  exact WR.ev (ev_eqWrl w hf) rfl rfl rfl (WR.iteF rfl (WR.done rfl))
abbrev tyCon : Ty := .st [.i .i64,.b,tyCal,tyRes]
abbrev tyLog : Ty := .st [tyCal,tyRes]
abbrev tyWrl : Ty := .st [tyPlan,.sl tySit,tyClk,.sl tyCon,.sl tyMsg,.sl tyLog]
theorem res_of {ds : List D} (h : TySh tyRes ds) : ∃ (c : Int) (l : List Int),ds = [dI c,.s (dL l)] ∧ l.length ≤ 9223372036854775807 := by
  obtain ⟨_,_,rfl,⟨b,rfl⟩,_,_,rfl,h1,rfl⟩ := h
  obtain ⟨l,rfl,hl⟩ := ints_of h1
  exact ⟨b,l,rfl,hl⟩
theorem con_of {ds : List D} (h : TySh tyCon ds) : ∃ x : Con,ds = x.cells ∧ bigCon x := by
  obtain ⟨_,_,rfl,⟨a,rfl⟩,_,_,rfl,⟨b,rfl⟩,_,_,rfl,h1,_,_,rfl,h2,rfl⟩ := h
  obtain ⟨c,rfl,hc⟩ := cal_of h1
  obtain ⟨d,l,rfl,hl⟩ := res_of h2
  exact ⟨⟨a,b,c,d,l⟩,rfl,hc,hl⟩
theorem log_of {ds : List D} (h : TySh tyLog ds) : ∃ x : LogD,ds = x.cells ∧ bigLogD x := by
  obtain ⟨_,_,rfl,h1,_,_,rfl,h2,rfl⟩ := h
  obtain ⟨c,rfl,hc⟩ := cal_of h1
  obtain ⟨d,l,rfl,hl⟩ := res_of h2
  exact ⟨⟨c,d,l⟩,rfl,hc,hl⟩
theorem sits_of {ds : List D} (h : TySh (.sl tySit) ds) : ∃ l,ds = [.s (dSt l)] ∧ bigL bigSit l := by
  obtain ⟨es,rfl,hl,he⟩ := h
  obtain ⟨l,rfl,hp⟩ := map_ex (f := Sit.g) (p := bigSit) fun x hx => by
    obtain ⟨cs,h1,rfl⟩ := he x hx
    obtain ⟨l,rfl,hf⟩ := sit_of h1
    exact ⟨l,hf,rfl⟩
  exact ⟨l,rfl,by rw [List.length_map] at hl; unfold maxLen at hl; omega,hp⟩
theorem cons_of {ds : List D} (h : TySh (.sl tyCon) ds) : ∃ l,ds = [.s (dCn l)] ∧ bigL bigCon l := by
  obtain ⟨es,rfl,hl,he⟩ := h
  obtain ⟨l,rfl,hp⟩ := map_ex (f := Con.g) (p := bigCon) fun x hx => by
    obtain ⟨cs,h1,rfl⟩ := he x hx
    obtain ⟨l,rfl,hf⟩ := con_of h1
    exact ⟨l,hf,rfl⟩
  exact ⟨l,rfl,by rw [List.length_map] at hl; unfold maxLen at hl; omega,hp⟩
theorem msgs_of {ds : List D} (h : TySh (.sl tyMsg) ds) : ∃ l,ds = [.s (dMs l)] ∧ bigL bigMsg l := by
  obtain ⟨es,rfl,hl,he⟩ := h
  obtain ⟨l,rfl,hp⟩ := map_ex (f := Msg.g) (p := bigMsg) fun x hx => by
    obtain ⟨cs,h1,rfl⟩ := he x hx
    obtain ⟨l,rfl,hf⟩ := msg_of h1
    exact ⟨l,hf,rfl⟩
  exact ⟨l,rfl,by rw [List.length_map] at hl; unfold maxLen at hl; omega,hp⟩
theorem logs_of {ds : List D} (h : TySh (.sl tyLog) ds) : ∃ l,ds = [.s (dLg l)] ∧ bigL bigLogD l := by
  obtain ⟨es,rfl,hl,he⟩ := h
  obtain ⟨l,rfl,hp⟩ := map_ex (f := LogD.g) (p := bigLogD) fun x hx => by
    obtain ⟨cs,h1,rfl⟩ := he x hx
    obtain ⟨l,rfl,hf⟩ := log_of h1
    exact ⟨l,hf,rfl⟩
  exact ⟨l,rfl,by rw [List.length_map] at hl; unfold maxLen at hl; omega,hp⟩
theorem arg_FnExactWldOk (dss : List (List D)) (h : TySs [tyWrl] dss) : ∃ ls,flattenD [.g [.i .i64,.s,.s,.s,.s,.b,.i .i64,.s,.s,.s,.s,.s,.s,.s]] (argsS [tyWrl] dss) = some ls ∧ Ev L f_k5p ls [dB true] := by
  obtain ⟨ds,_,rfl,h,rfl⟩ := h
  obtain ⟨_,_,rfl,h1,_,_,rfl,h2,_,_,rfl,h3,_,_,rfl,h4,_,_,rfl,h5,_,_,rfl,h6,rfl⟩ := h
  obtain ⟨p,rfl,hp⟩ := plan_of h1
  obtain ⟨s,rfl,hs⟩ := sits_of h2
  obtain ⟨c,rfl,hc⟩ := clk_of h3
  obtain ⟨n,rfl,hn⟩ := cons_of h4
  obtain ⟨m,rfl,hm⟩ := msgs_of h5
  obtain ⟨l,rfl,hl⟩ := logs_of h6
  exact ⟨_,rfl,ev_FnExactWldOk ⟨p,s,c,n,m,l⟩ ⟨hp,hs,hc,hn,hm,hl⟩⟩
end Go.Proofs.YtohfbfgggkmibaaGreatDoor