import Derived.Test.YtngcnclchcahlabGreatDoorPZP
import Derived.Test.YtngcnclchcahlabGreatDoorPV
set_option linter.unusedVariables false
set_option linter.unusedSimpArgs false
/- What does not come to its end turns nothing: over residual programs. -/
namespace Go.Proofs.YtngcnclchcahlabGreatDoor
open Go Go.Tm
open Go.IntKind (i64)
theorem Joe (v x t:List Int) (hv:v.length≤2000000) (hx:x.length≤2000000):Ev L f_k2j [.s (dL v),.s (dL x),.s (dL t)] (Res.ds (JfP v x t)):=by
 refine JuV (vs:=[.l (dL v),.l (dL x),.l (dL t)]) L_k2j rfl ?_;refine Jup (Zd x hx) rfl rfl rfl ?_;unfold JfP;refine JuL (JQ x) rfl (fun h=>?_) (fun h=>Jun ?_)
 ·rw[h,if_neg (by simp)];refine Juv (dL v) 2000000 (by rw[dL1];omega) (by omega) rfl ?_;refine JuT (JW v) ?_;refine Juv (dL v) 2000000 (by rw[dL1];omega) (by omega) rfl (Jun rfl)
 ·rw[h];rfl
theorem Jke (a:List Jg) (v w:List Int) (ha:Kt a) (hv:v.length≤2000000) (hw:w.length≤2000000):Ev L f_k2k [.s (Jl a),.s (dL v),.s (dL w)] (Res.ds (X8 a v w)):=by
 refine JuV (vs:=[.l (Jl a),.l (dL v),.l (dL w)]) L_k2k rfl ?_;have none:(Qo a&&(JQ v&&Q1 w))=false→X8 a v w=⟨0,[],[]⟩:=fun h=>by simp[X8,h]
 refine Jup (JaQ a ha) rfl rfl rfl ?_;refine JuL (Qo a) rfl (fun h=>Jun ?_) (fun h=>?_)
 ·rw[none (by simp[h])];rfl
 refine Jup (Zd v hv) rfl rfl rfl ?_;refine JuL (JQ v) rfl (fun h2=>Jun ?_) (fun h2=>?_)
 ·rw[none (by simp[h2])];rfl
 refine Jup (Jjs w hw) rfl rfl rfl ?_;refine JuL (Q1 w) rfl (fun h3=>Jun ?_) (fun h3=>?_)
 ·rw[none (by simp[h3])];rfl
 have hrun:X8 a v w=run v w a v []:=by simp[X8,h,h2,h3]
 rw[hrun];obtain⟨v1,v2⟩:=Qd.1 h2;obtain⟨w1,w2⟩:=Xv.1 h3;obtain⟨a1,a2⟩:=Ko h;refine Juv (dL v) 2000000 (by rw[dL1];omega) (by omega) rfl ?_;refine JuT (JW v) ?_;refine Juv (dL v) 2000000 (by rw[dL1];omega) (by omega) rfl ?_;simp only[sC,sN];refine JuQ (fun m vs=>∃ (i:Int) (x t:List Int) (j:Nat),vs=[.l (dL t),.l (dL x),.i i]∧0≤i∧i≤20∧m=a.length-i.toNat∧(j:Int)≤i∧j≤6∧x.length=3∧Lim (XB j) x∧t.length≤j∧run v w (a.drop i.toNat) x t=run v w a v []) rfl a.length
  ⟨0,v,[],0,rfl,by omega,by omega,by simp,by omega,by omega,v1,v2,by simp,by simp⟩ ?_
 rintro m _ ⟨i,x,t,j,rfl,i0,i20,hm,hji,hj6,hx,hl,ht,hr⟩;rw[←hr];clear hr;simp only[sC,sN];have hX0:=Jdl j;have hXl:=Jpi hj6;refine JuB (i<((Jl a).length:Int)) rfl (fun hi=>?_) (fun hi=>?_)
 ·rw[JG] at hi;obtain⟨l,hla,hd⟩:=K2 i0 hi;have hok:=a2 l (Ju7 hla);have hdr:=Xw hla;have hs1:(i+1).toNat=i.toNat+1:=by omega
  refine Juz (ds:=Jl a) i rfl rfl rfl i0 hd rfl ?_;simp only[sC,sN];have hlx:Lim 2000000000 x:=hl.mono hXl;have hrn : ¬l.kind=4→run v w (a.drop i.toNat) x t=if l.kind=1 then(if atF l.f x w<0 then run v w (a.drop (i+l.skip+1).toNat) x t else run v w (a.drop (i+1).toNat) x t)
    else if l.kind=2 then run v w (a.drop (i+1).toNat) (x.set l.pot.toNat (x.getD l.pot.toNat 0+atF l.f x w)) t else run v w (a.drop (i+1).toNat) x (t++[atF l.f x w]):=fun h4=>by
   rw[hdr,run,if_neg h4,hs1]
   by_cases h1:l.kind=1
   ·have hsk:=V1 hok h1;rw[if_pos h1,if_pos h1,List.drop_drop,show i.toNat+1+l.skip.toNat=(i+l.skip+1).toNat by omega]
   ·rw[if_neg h1,if_neg h1]
  have hat:=fun h4 : ¬l.kind=4=>JgH (Zy.small (XH hok h4) hx hlx h3);have hb:=fun h4 : ¬l.kind=4=>Jdb (XH hok h4) hl w2 hX0;refine JuB (l.kind=1) rfl (fun h1=>?_) (fun h1=>?_)
  ·have h4 : ¬l.kind=4:=by omega
   have hat:=hat h4;rw[hrn h4,if_pos h1];have hsk:=V1 hok h1;refine Jup hat rfl rfl rfl ?_;simp only[sC,sN];generalize atF l.f x w=n at *;refine JuB (n<0) rfl (fun hn=>?_) (fun hn=>?_)
   ·rw[if_pos hn];refine JuC (vs:=[.l (dL t),.l (dL x),.i (i+l.skip+1)]) ?_ ⟨a.length-(i+l.skip+1).toNat,by omega,i+l.skip+1,x,t,j,rfl,by omega,by omega,rfl,by omega,by omega,hx,hl,ht,rfl⟩;show [V.l (dL t),V.l (dL x),V.i (i64.wrap (i64.wrap (i+l.skip)+1))]=_;rw[w64 (n:=i+l.skip) (by omega) (by omega),w64 (by omega) (by omega)]
   ·rw[if_neg hn];refine JuC (vs:=[.l (dL t),.l (dL x),.i (i+1)]) ?_ ⟨a.length-(i+1).toNat,by omega,i+1,x,t,j,rfl,by omega,by omega,rfl,by omega,by omega,hx,hl,ht,rfl⟩;show [V.l (dL t),V.l (dL x),V.i (i64.wrap (i+1))]=_;rw[w64 (by omega) (by omega)]
  refine JuB (l.kind=2) rfl (fun h2'=>?_) (fun h2'=>?_)
  ·have h4 : ¬l.kind=4:=by omega
   have hat:=hat h4;have hb:=hb h4;rw[hrn h4,if_neg h1,if_pos h2'];have hj5:j<6:=by omega
   have hpt:=Jez hok h2';have hxp:=We (l:=x) (i:=l.pot.toNat) (by omega);have hdx:(dL x)[l.pot.toNat]? = some (dI (x.getD l.pot.toNat 0)):=mA1 (f:=dI) hxp;have hlp:=hl _ (Ju7 hxp);generalize atF l.f x w=n at *;generalize x.getD l.pot.toNat 0=y at *;refine JuE (0≤l.pot) rfl hpt.1 ?_;refine JuE (l.pot<((dL x).length:Int)) rfl (by rw[dL1];omega) ?_;refine Juz (ds:=dL x) l.pot rfl rfl rfl hpt.1 hdx rfl ?_;simp only[sC,sN];refine Jup hat rfl rfl rfl ?_;simp only[sC,sN];refine JuE (0≤l.pot) rfl hpt.1 ?_;refine JuE (l.pot<((dL x).length:Int)) rfl (by rw[dL1];omega) ?_;refine Juz (ds:=dL x) l.pot rfl rfl rfl hpt.1 hdx rfl ?_;simp only[sC,sN];have hstep:XB (j+1)=7*XB j+60:=rfl;refine JuC (vs:=[.l (dL t),.l (dL (x.set l.pot.toNat (y+n))),.i (i+1)]) ?_ ⟨a.length-(i+1).toNat,by omega,i+1,x.set l.pot.toNat (y+n),t,j+1,rfl,by omega,by omega,rfl,by omega,by omega,by simp[hx],(hl.mono (Wl (by omega))).set (by omega) _,by omega,rfl⟩;show [V.l (dL t),V.l ((dL x).set l.pot.toNat (dI (i64.wrap (y+n)))),V.i (i64.wrap (i+1))]=_;rw[w64 (n:=i+1) (by omega) (by omega),w64 (by omega) (by omega),QC]
  refine JuB (l.kind=3) rfl (fun h3'=>?_) (fun h3'=>?_)
  ·have h4 : ¬l.kind=4:=by omega
   have hat:=hat h4;have hj5:j<6:=by omega
   rw[hrn h4,if_neg h1,if_neg h2'];refine Jup hat rfl rfl rfl ?_;simp only[sC,sN];generalize atF l.f x w=n at *;refine JuR (dL t) 10 (by rw[dL1];omega) (by omega) rfl ?_;refine JuC (vs:=[.l (dL (t++[n])),.l (dL x),.i (i+1)]) ?_ ⟨a.length-(i+1).toNat,by omega,i+1,x,t++[n],j+1,rfl,by omega,by omega,rfl,by omega,by omega,hx,hl.mono (Wl (by omega)),by simp;omega,rfl⟩;show [V.l (dL t++[dI n]),V.l (dL x),V.i (i64.wrap (i+1))]=_;rw[w64 (by omega) (by omega),XI]
  ·have h4:l.kind=4:=by
    by_cases h4:l.kind=4
    ·exact h4
    ·exact absurd (Jlt hok h1 h2' h4) h3'
   rw[hdr,run,if_pos h4];refine Juv (dL v) 2000000 (by rw[dL1];omega) (by omega) rfl ?_;refine JuT (JW v) ?_;refine Juv (dL v) 2000000 (by rw[dL1];omega) (by omega) rfl (Juk (Jun rfl))
 ·rw[JG] at hi;rw[List.drop_eq_nil_of_le (by omega),run];refine Juk ?_;exact Jup (Joe v x t hv (by omega)) rfl rfl rfl (Jun rfl)
def Jlo (v:List Int) (r:Res):Prop:=(r.code=1∧JQ r.is=true∧r.tells.length≤6∧Lim 999999999999 r.tells)∨(r.is=v∧r.tells=[]∧(r.code=2∨r.code=3))
theorem Vf {v w:List Int} (hw:Lim 9 w) :∀(n:Nat) (a:List Jg) (x t:List Int) (j:Nat),a.length≤n→(∀l∈a,l.ok=true)→j+a.length≤6→x.length=3→Lim (XB j) x→t.length≤j→Lim 999999999999 t→Jlo v (run v w a x t)
 | n,[],x,t,j,_,_,hj,hx,hl,ht,hlt=>by
  rw[run];unfold JfP;split
  ·rename_i h;exact .inl ⟨rfl,h,by simp at hj;show t.length≤6;omega,hlt⟩
  ·exact .inr ⟨rfl,rfl,.inr rfl⟩
 | 0,l::a,x,t,j,h,_,_,_,_,_,_=>by simp at h
 | n+1,l::a,x,t,j,h,hok,hj,hx,hl,ht,hlt=>by
  have hok1:=hok l (by simp);have hok2 :∀l∈a,l.ok=true:=fun m hm=>hok m (by simp[hm]);simp only[List.length_cons] at h hj;rw[run];split
  ·exact .inr ⟨rfl,rfl,.inl rfl⟩
  ·rename_i h4;have hX0:=Jdl j;have hXl:=Jpi (n:=j) (by omega);have hb:=Jdb (XH hok1 h4) hl hw hX0;split
   ·split
    ·exact Vf hw n _ x t j (by simp;omega) (fun m hm=>hok2 m (List.mem_of_mem_drop hm)) (by simp;omega) hx hl ht hlt
    ·exact Vf hw n a x t j (by omega) hok2 (by omega) hx hl ht hlt
   ·split
    ·rename_i h2;have hpt:=Jez hok1 h2;have hxp:=We (l:=x) (i:=l.pot.toNat) (by omega);have hlp:=hl _ (Ju7 hxp);have hstep:XB (j+1)=7*XB j+60:=rfl;exact Vf hw n a _ t (j+1) (by omega) hok2 (by omega) (by simp[hx]) ((hl.mono (Wl (by omega))).set (by omega) _) (by omega) hlt
    ·refine Vf hw n a x _ (j+1) (by omega) hok2 (by omega) hx (hl.mono (Wl (by omega))) (by simp;omega) ?_;intro y hy;rcases Ju5.1 hy with h | h
     ·exact hlt y h
     ·simp only[Jvi] at h;subst h;omega
theorem JhK {a:List Jg} {v w:List Int} (h1:Qo a=true) (h2:JQ v=true) (h3:Q1 w=true):Jlo v (X8 a v w):=by
 obtain⟨v1,v2⟩:=Qd.1 h2;obtain⟨w1,w2⟩:=Xv.1 h3;obtain⟨a1,a2⟩:=Ko h1;have hrun:X8 a v w=run v w a v []:=by simp[X8,h1,h2,h3]
 rw[hrun];exact Vf w2 a.length a v [] 0 (by omega) a2 (by omega) v1 v2 (by simp) (fun x hx=>by simp at hx)
/- Sizes and copies of calls,of what was done,of sites,clerks and messages: over residual programs. -/
def Wq {α:Type} (f:α→Prop) (l:List α):Prop:=l.length≤2000000∧∀x∈l,f x
def YW (x:Cal):Prop:=x.args.length≤2000000
def Za (x:Don):Prop:=x.tells.length≤2000000
structure Msg where
 kind:Int
 to:Int
 frm:Int
 round:Int
 call:Cal
 vals:List Int
 seqs:List Int
 done:List Don
 deriving DecidableEq
def Msg.cells (x:Msg):List D:=[dI x.kind,dI x.to,dI x.frm,dI x.round,dI x.call.client,dI x.call.seq,dI x.call.act,.s (dL x.call.args),.s (dL x.vals),.s (dL x.seqs),.s (dDs x.done)]
def Msg.g (x:Msg):D:= .g x.cells
def Vn (x:Msg):Prop:=x.call.args.length≤2000000∧x.vals.length≤2000000∧x.seqs.length≤2000000∧Wq Za x.done
/- Results,calls,what was done,messages: which of them are ok. -/
theorem Jhn (n:Int) (h0 : -999999999999≤n) (h1:n≤999999999999):Ev L f_k1a [dI n] [Q7 (Lib.itoa n)]:=by
 refine JuX L_k1a ?_;show (Jcw (dI n)).map _=_;rw[show Jcw (dI n)=some n by show (if _ then some n else none)=_;rw[if_pos (by omega)]];rfl
theorem JjD {t:List Int} {i:Nat} {x:Int} (h:t[i]? = some x):Qy (t.take (i+1))=Qy (t.take i)++[32]++Lib.itoa x:=by
 unfold Qy;rw[tS1 h,List.flatMap_append];simp only[List.flatMap_cons,List.flatMap_nil,List.append_nil,List.append_assoc,List.singleton_append]
theorem Jh3 (c:Int) (t:List Int) (ht:t.length≤2000000):Ev L f_k1b [dI c,.s (dL t)] [Q7 (K1 c t)]:=by
 refine JuV (vs:=[.i c,.l (dL t)]) L_k1b rfl ?_;have no:JO c t=false→([Q7 []]:List D)=[Q7 (K1 c t)]:=fun h=>by simp[K1,h]
 refine Jup (JT c 1 3) rfl rfl rfl ?_;refine JuL (inB c 1 3) rfl (fun h=>Jun (no (by simp[JO,h]))) (fun h1=>?_);obtain⟨w1,_,w3⟩:=JgD h1;have hidx:(Qv.map Q7)[c.toNat]? = some (Q7 (Qv.getD c.toNat [])):=by rw[Jvl,w1];rfl
 have hc0:0≤c:=by unfold inB at h1;simp only[Ju0,decide_eq_true_eq] at h1;omega
 have hc4:c<4:=by unfold inB at h1;simp only[Ju0,decide_eq_true_eq] at h1;omega
 have hal:=Xx t t.length 999999999999 ht (by omega) (by omega);have six:6<t.length→JO c t=false:=fun h=>by simp only[JO,show ¬t.length≤6 by omega,decide_false,Bool.false_and,Bool.and_false]
 have ok:t.length≤6→(c=1∨t=[])→JK t.length 999999999999 t=true→JO c t=true:=fun h2 h3 h4=>XP.2 ⟨by unfold inB at h1;simp only[Ju0,decide_eq_true_eq] at h1;omega,h2,h3,(Jq.1 h4).2⟩;refine JuL (decide (c=1)) rfl (fun h3=>?_) (fun h3=>?_)
 ·refine JuB (0<((dL t).length:Int)) rfl (fun h=>Jun (no ?_)) (fun h4=>?_)
  ·rw[dL1] at h;have:t.isEmpty=false:=by cases t with
    | nil=>simp at h
    | cons x t=>rfl
   simp only[JO,h3,this,Bool.or_false,Bool.false_and,Bool.and_false]
  rw[dL1] at h4;have h4:t=[]:=List.length_eq_zero_iff.1 (by omega);refine JuB (6<((dL t).length:Int)) rfl (fun h=>Jun (no (six (by rw[dL1] at h;omega)))) (fun h2=>?_);rw[dL1] at h2;refine Jup hal rfl (by show [D.s (dL t),dI ((dL t).length:Int),dI 999999999999]=_;rw[dL1]) rfl ?_;refine JuL (JK t.length 999999999999 t) rfl (fun h=>Jun (no (by simp only[JO,h,Bool.and_false]))) (fun h5=>?_);have hok:=ok (by omega) (.inr h4) h5;have hl:=(Jq.1 h5).2;have e:Q7 (K1 c t)=Q7 (Qv.getD c.toNat []++Qy t):=by simp only[K1,hok,if_true]
  rw[e];refine JuE (0≤c) rfl hc0 (JuE (c<4) rfl hc4 ?_);refine Juz (ds:=Qv.map Q7) c rfl rfl rfl hc0 hidx rfl ?_;subst h4;refine JuQ (fun _ vs=>vs=[.d (Q7 (Qv.getD c.toNat [])),.i 0]) rfl 0 rfl ?_;rintro m _ rfl;refine JuN rfl (Juk (Jun ?_));show [Q7 (Qv.getD c.toNat [])]=[Q7 (Qv.getD c.toNat []++Qy [])];rw[show Qy []=[] from rfl,List.append_nil]
 ·refine JuB (6<((dL t).length:Int)) rfl (fun h=>Jun (no (six (by rw[dL1] at h;omega)))) (fun h2=>?_);rw[dL1] at h2;refine Jup hal rfl (by show [D.s (dL t),dI ((dL t).length:Int),dI 999999999999]=_;rw[dL1]) rfl ?_;refine JuL (JK t.length 999999999999 t) rfl (fun h=>Jun (no (by simp only[JO,h,Bool.and_false]))) (fun h5=>?_);have hok:=ok (by omega) (.inl (by simpa using h3)) h5;have hl:=(Jq.1 h5).2;have e:Q7 (K1 c t)=Q7 (Qv.getD c.toNat []++Qy t):=by simp only[K1,hok,if_true]
  rw[e];refine JuE (0≤c) rfl hc0 (JuE (c<4) rfl hc4 ?_);refine Juz (ds:=Qv.map Q7) c rfl rfl rfl hc0 hidx rfl ?_;generalize Qv.getD c.toNat []=wd at *;refine Juu t.length (fun i=>[.d (Q7 (wd++Qy (t.take i))),.i i]) (fun _=>True) rfl ?_ trivial fun i hi _=>?_
  ·show [V.d (Q7 wd),V.i 0]=_;rw[List.take_zero,show Qy []=[] from rfl,List.append_nil];rfl
  simp only[sC,sN];refine JuG i (dL1 t) rfl (fun h=>?_) (fun h=>Juk (Jun ?_))
  ·obtain⟨x,hx,hm⟩:=sA1 h;have hxb:=hl x hm;have hj:=JdY (t.take i) fun m hm=>hl m (Jvo hm);rw[Jvf,Nat.min_eq_left (by omega)] at hj;have hxl:=Lib.itoa_length_le x (by omega) (by omega);refine Jut rfl (JcB (a:=wd++Qy (t.take i)) (b:=[32]) (by simp;omega)) rfl ?_;refine JuF i (mA1 (f:=dI) hx) rfl rfl rfl rfl ?_;refine Jup (Jhn x (by omega) (by omega)) rfl rfl rfl ?_;refine Jut rfl (JcB (a:=wd++Qy (t.take i)++[32]) (b:=Lib.itoa x) (by simp;omega)) rfl ?_;refine JuC (vs:=[.d (Q7 (wd++Qy (t.take (i+1)))),.i ((i+1:Nat):Int)]) ?_ ⟨h,rfl,trivial⟩;show [V.d (Q7 (wd++Qy (t.take i)++[32]++Lib.itoa x)),V.i (i64.wrap ((i:Int)+1))]=_;rw[wS h (by omega),JjD hx];simp only[List.append_assoc]
  ·show [Q7 (wd++Qy (t.take i))]=_;rw[tA1 h]
theorem Ja9 (c:Int) (t:List Int) (ht:t.length≤2000000):Ev L f_k1c [dI c,.s (dL t)] [dB (JO c t)]:=by
 refine JuV (vs:=[.i c,.l (dL t)]) L_k1c rfl ?_;refine Jup (Jh3 c t ht) rfl rfl rfl ?_;refine Jut rfl (Jly (K1 c t) []) rfl (Jun ?_);show [dB (!(K1 c t == []))]=_;rw[JdI,Bool.not_not]
def Jm (p:Pln) (c:Cal):Bool:=inB c.client 0 (p.n-1)&&(inB c.seq 1 300&&(inB c.act 0 ((p.acts.length:Int)-1)&&Q1 c.args))
theorem JdP {n:Nat} (h:n≤2000000):i64.wrap ((n:Int)-1)=(n:Int)-1:=w64 (by omega) (by omega)
theorem Qu (p:Pln) (c:Cal) (hp:JY p) (h1:1≤p.n) (h2:p.n≤4) (hc:YW c):Ev L f_k19 (p.cells++c.cells) [dB (Jm p c)]:=by
 refine JuV (vs:=[.i p.n,.l (Jd p.acts),.l (dL p.gives),.l (dL p.start),.i c.client,.i c.seq,.i c.act,.l (dL c.args)]) L_k19 rfl ?_;have w1:i64.wrap (p.n-1)=p.n-1:=w64 (by omega) (by omega);have w2:i64.wrap (((Jd p.acts).length:Int)-1)=(p.acts.length:Int)-1:=by rw[JR];exact JdP hp.1.1
 refine Jup (JT c.client 0 (p.n-1)) rfl (by show [dI c.client,dI 0,dI (i64.wrap (p.n-1))]=_;rw[w1]) rfl ?_;refine JuU (inB c.client 0 (p.n-1)) rfl (fun a=>?_) (fun a=>Jun (by show [dB false]=_;simp[Jm,a]));refine Jup (JT c.seq 1 300) rfl rfl rfl ?_;refine JuU (inB c.seq 1 300) rfl (fun b=>?_) (fun b=>Jun (by show [dB false]=_;simp[Jm,b]));refine Jup (JT c.act 0 ((p.acts.length:Int)-1)) rfl (by show [dI c.act,dI 0,dI (i64.wrap (((Jd p.acts).length:Int)-1))]=_;rw[w2]) rfl ?_;refine JuU (inB c.act 0 ((p.acts.length:Int)-1)) rfl (fun d=>?_) (fun d=>Jun (by show [dB false]=_;simp[Jm,d]));refine Jup (Jjs c.args hc) rfl rfl rfl (Jun ?_);show [dB (Q1 c.args)]=_;simp[Jm,a,b,d]
theorem Jcf (p:Pln) (k:Int) (h1:1≤p.n) (h2:p.n≤4):Ev L f_k4v (p.cells++[dI k]) [dB (inB k 0 (p.n-1))]:=by
 refine JuV (vs:=[.i p.n,.l (Jd p.acts),.l (dL p.gives),.l (dL p.start),.i k]) L_k4v rfl ?_;have w1:i64.wrap (p.n-1)=p.n-1:=w64 (by omega) (by omega);exact Jup (YL k 0 (p.n-1)) rfl (by show [dI k,dI 0,dI (i64.wrap (p.n-1))]=_;rw[w1]) rfl (Jun rfl)
theorem Jmt (p:Pln) (c:Cal) (hp:JY p) (h1:1≤p.n) (h2:p.n≤4) (hc:YW c):Ev L f_k4x (p.cells++c.cells) [dB (Jm p c)]:=by
 refine JuV (vs:=[.i p.n,.l (Jd p.acts),.l (dL p.gives),.l (dL p.start),.i c.client,.i c.seq,.i c.act,.l (dL c.args)]) L_k4x rfl ?_;have w2:i64.wrap (((Jd p.acts).length:Int)-1)=(p.acts.length:Int)-1:=by rw[JR];exact JdP hp.1.1
 refine Jup (Jcf p c.client h1 h2) rfl rfl rfl ?_;refine JuU (inB c.client 0 (p.n-1)) rfl (fun a=>?_) (fun a=>Jun (by show [dB false]=_;simp[Jm,a]));refine Jup (YL c.act 0 ((p.acts.length:Int)-1)) rfl (by show [dI c.act,dI 0,dI (i64.wrap (((Jd p.acts).length:Int)-1))]=_;rw[w2]) rfl ?_;refine JuU (inB c.act 0 ((p.acts.length:Int)-1)) rfl (fun d=>?_) (fun d=>Jun (by show [dB false]=_;simp[Jm,d]));refine Jup (YL c.seq 1 300) rfl rfl rfl ?_;refine JuU (inB c.seq 1 300) rfl (fun b=>?_) (fun b=>Jun (by show [dB false]=_;simp[Jm,b]));refine Jup (Jjh c.args hc) rfl rfl rfl (Jun ?_);show [dB (Q1 c.args)]=_;simp[Jm,a,b,d]
theorem Kb (n:Nat) {m:Nat} (h:m=n):decide ((m:Int)=0)=decide (n=0):=by subst h;simp
def Zs (c:Cal):Bool:=decide (c.client=0)&&(decide (c.seq=0)&&(decide (c.act=0)&&decide (c.args.length=0)))
def Xq (d:Don):Bool:=if d.seq=0 then decide (d.code=0)&&decide (d.tells.length=0) else inB d.seq 1 300&&JO d.code d.tells
def J7 (n:Int) (l:List Don):Bool:=decide ((l.length:Int)=n)&&l.all Xq
def Xb (n:Int) (l:List Int):Bool:=decide ((l.length:Int)=n)&&l.all fun x=>inB x 0 300
theorem Qz (l:List Don):(dDs l).length=l.length:=by simp[dDs]
theorem Jft (p:Pln) (l:List Int) (hl:l.length≤2000000):Ev L f_k1n (p.cells++[.s (dL l)]) [dB (Xb p.n l)]:=by
 refine JuV (vs:=[.i p.n,.l (Jd p.acts),.l (dL p.gives),.l (dL p.start),.l (dL l)]) L_k1n rfl ?_;refine JuL (decide ((l.length:Int)=p.n)) (by show (!decide (((dL l).length:Int)=p.n))=_;rw[dL1]) (fun h=>Jun (by show [dB false]=_;simp only[Xb,h,Bool.false_and])) (fun h=>?_);refine Juu l.length (fun i=>[.i i]) (fun i=>((l.take i).all fun x=>inB x 0 300)=true) rfl rfl rfl fun i hi hq=>?_;simp only[sC,sN];refine JuG i (dL1 l) rfl (fun h'=>?_) (fun h'=>Juk (Jun ?_))
 ·obtain⟨x,hx,_⟩:=sA1 h';refine JuF i (mA1 (f:=dI) hx) rfl rfl rfl rfl ?_;refine Jup (JT x 0 300) rfl rfl rfl ?_;refine JuL (inB x 0 300) rfl (fun b=>Juk (Jun ?_)) (fun b=>JuC (vs:=[.i ((i+1:Nat):Int)]) (by rw[←wS h' (by omega)];rfl) ⟨h',rfl,by show ((l.take (i+1)).all fun x=>inB x 0 300)=true;rw[tS1 hx,List.all_append,hq];simp[b]⟩);show [dB false]=_;have:(l.all fun x=>inB x 0 300)=false:=by rw[←List.take_append_drop i l,List.all_append,Xw hx];simp[b]
  simp[Xb,this]
 ·show [dB true]=_;rw[tA1 h'] at hq;simp[Xb,h,hq]
theorem Jci {d:Don} (hs:inB d.seq 0 300=true):Xq d=if decide (d.seq=0)=decide (d.code=0) then(if d.seq=0 then decide (d.tells.length=0) else JO d.code d.tells) else false:=by
 unfold Xq
 by_cases h:d.seq=0
 ·rw[if_pos h,if_pos h]
  by_cases h2:d.code=0 <;> simp[h,h2]
 ·rw[if_neg h,if_neg h];have hin:inB d.seq 1 300=true:=by unfold inB at hs ⊢;simp only[Ju0,decide_eq_true_eq] at hs ⊢;omega
  by_cases h2:d.code=0
  ·have:JO d.code d.tells=false:=by unfold JO inB;simp[h2]
   simp[h,h2,this,JO,inB]
  ·simp[h,h2,hin]
theorem Jbn (p:Pln) (l:List Don) (hl:Wq Za l):Ev L f_k1j (p.cells++[.s (dDs l)]) [dB (J7 p.n l)]:=by
 refine JuV (vs:=[.i p.n,.l (Jd p.acts),.l (dL p.gives),.l (dL p.start),.l (dDs l)]) L_k1j rfl ?_;have hl0:=hl.1;refine JuL (decide ((l.length:Int)=p.n)) (by show (!decide (((dDs l).length:Int)=p.n))=_;rw[Qz]) (fun h=>Jun (by show [dB false]=_;simp only[J7,h,Bool.false_and])) (fun h=>?_);refine Juu l.length (fun i=>[.i i]) (fun i=>((l.take i).all Xq)=true) rfl rfl rfl fun i hi hq=>?_;simp only[sC,sN];refine JuG i (Qz l) rfl (fun h'=>?_) (fun h'=>Juk (Jun ?_))
 ·obtain⟨x,hx,hm⟩:=sA1 h';have hg:(dDs l)[i]? = some x.g:=mA1 (f:=Don.g) hx;have bad:Xq x=false→[dB false]=[dB (J7 p.n l)]:=fun hb=>by
   have:l.all Xq=false:=by rw[←List.take_append_drop i l,List.all_append,Xw hx];simp[hb]
   simp[J7,this]
  have good:Xq x=true→((l.take (i+1)).all Xq)=true:=fun hb=>by rw[tS1 hx,List.all_append,hq];simp[hb]
  have nx:[V.i (i64.wrap ((i:Int)+1))]=[V.i ((i+1:Nat):Int)]:=by rw[wS h' (by omega)]
  refine JuF (vs:=[.i x.seq,.i x.code,.l (dL x.tells)]) i hg rfl rfl rfl rfl ?_;refine Jup (JT x.seq 0 300) rfl rfl rfl ?_;simp only[sC,sN];refine JuL (inB x.seq 0 300) rfl (fun b=>Juk (Jun (bad ?_))) (fun b=>?_)
  ·unfold Xq;rw[if_neg (by intro e;rw[e] at b;simp[inB] at b)];have:inB x.seq 1 300=false:=by
    unfold inB at b ⊢;simp only[Bool.and_eq_false_iff,decide_eq_false_iff_not] at b ⊢;omega
   simp[this]
  have hc:=Jci b;refine JuF (vs:=[.i x.seq,.i x.code,.l (dL x.tells)]) i hg rfl rfl rfl rfl ?_;refine JuF (vs:=[.i x.seq,.i x.code,.l (dL x.tells)]) i hg rfl rfl rfl rfl ?_;simp only[sC,sN];refine JuL (decide (x.seq=0) == decide (x.code=0)) rfl (fun e=>Juk (Jun (bad ?_))) (fun e=>?_)
  ·rw[hc,if_neg (by simpa using e)]
  rw[if_pos (by simpa using e)] at hc;refine JuF (vs:=[.i x.seq,.i x.code,.l (dL x.tells)]) i hg rfl rfl rfl rfl ?_;simp only[sC,sN];refine JuB (x.seq=0) rfl (fun h0=>?_) (fun h0=>?_)
  ·rw[if_pos h0] at hc;refine JuF (vs:=[.i x.seq,.i x.code,.l (dL x.tells)]) i hg rfl rfl rfl rfl ?_;simp only[sC,sN];refine JuB (0<((dL x.tells).length:Int)) rfl (fun ht=>Juk (Jun (bad ?_))) (fun ht=>?_)
   ·rw[dL1] at ht;rw[hc];exact decide_eq_false (by omega)
   refine JuF (vs:=[.i x.seq,.i x.code,.l (dL x.tells)]) i hg rfl rfl rfl rfl ?_;simp only[sC,sN];refine JuN (by show decide ((0:Int)<x.seq)=false;rw[h0];rfl) ?_;exact JuC nx ⟨h',rfl,good (by rw[dL1] at ht;rw[hc];exact decide_eq_true (by omega))⟩
  ·rw[if_neg h0] at hc;have hpos:0<x.seq:=by unfold inB at b;simp only[Ju0,decide_eq_true_eq] at b;omega
   refine JuF (vs:=[.i x.seq,.i x.code,.l (dL x.tells)]) i hg rfl rfl rfl rfl ?_;simp only[sC,sN];refine JuK (by show decide ((0:Int)<x.seq)=true;simpa using hpos) ?_;refine JuF (vs:=[.i x.seq,.i x.code,.l (dL x.tells)]) i hg rfl rfl rfl rfl ?_;refine Jup (Ja9 x.code x.tells (hl.2 x hm)) rfl rfl rfl ?_;exact JuL (JO x.code x.tells) rfl (fun e=>Juk (Jun (bad (by rw[hc,e])))) (fun e=>JuC nx ⟨h',rfl,good (by rw[hc,e])⟩)
 ·show [dB true]=_;rw[tA1 h'] at hq;simp[J7,h,hq]
theorem Jir (x:Int):Ev L f_k58 [dI x] [dB (!inB x 0 300)] :=
 JuV (vs:=[.i x]) L_k58 rfl (Jup (YL x 0 300) rfl rfl rfl (Jun rfl))
theorem Jl7 (p:Pln) (l:List Int) (hl:l.length≤2000000):Ev L f_k59 (p.cells++[.s (dL l)]) [dB (Xb p.n l)]:=by
 refine JuV (vs:=[.i p.n,.l (Jd p.acts),.l (dL p.gives),.l (dL p.start),.l (dL l)]) L_k59 rfl ?_;refine JuB ((l.length:Int)=p.n) (by show decide (((dL l).length:Int)=p.n)=_;rw[dL1]) (fun h=>?_) (fun h=>Jun (by show [dB false]=_;simp[Xb,h]));refine Jup (V9 (fun x=>!inB x 0 300) l (fn:=f_k58) (caps:=[]) hl rfl rfl fun x _=>Jir x) rfl rfl rfl (Jun ?_);show [dB (!(l.any fun x=>!inB x 0 300))]=_;rw[KB];simp[Xb,h]
theorem Jnz (d:Don) (hd:Za d):Ev L f_k4s d.cells [dB (Xq d)]:=by
 refine JuV (vs:=[.i d.seq,.i d.code,.l (dL d.tells)]) L_k4s rfl ?_;refine JuB (d.seq=0) rfl (fun h=>?_) (fun h=>?_)
 ·refine Jup (ds:=[dB (decide (d.code=0)&&decide (d.tells.length=0))]) (JuV (vs:=[.i d.code,.l (dL d.tells)]) L_k4n rfl ?_) rfl rfl rfl (Jun (by rw[Xq,if_pos h];rfl));refine JuB (d.code=0) rfl (fun a=>Jun ?_) (fun a=>Jun (by show [dB false]=_;simp[a]));show [dB (decide (((dL d.tells).length:Int)=0))]=_;rw[Kb d.tells.length (dL1 _)];simp[a]
 ·refine Jup (YL d.seq 1 300) rfl rfl rfl ?_;refine JuU (inB d.seq 1 300) rfl (fun a=>?_) (fun a=>Jun (by show [dB false]=_;simp[Xq,h,a]));refine Jup (Jl1 d.code d.tells hd) rfl rfl rfl (Jun ?_);show [dB (JO d.code d.tells)]=_;simp[Xq,h,a]
theorem Jh9 (d:Don) (hd:Za d):Ev L f_k4t d.cells [dB (!Xq d)] :=
 JuV (vs:=[.i d.seq,.i d.code,.l (dL d.tells)]) L_k4t rfl (Jup (Jnz d hd) rfl rfl rfl (Jun rfl))
theorem Jm2 (q:Don→Bool) (l:List Don) {fn:FuncId} {caps:List D} (hlen:l.length≤2000000) (hcap:XM (.f fn caps) = .f fn caps) (har:arT L fn=some ([some 3]++caps.map fun _=>none))
  (hc :∀x∈l,Ev L fn (x.cells++caps.map D.norm) [dB (q x)]):Ev L f_k4m [.s (dDs l),.f fn caps] [dB (l.any q)] :=
 YK (g := f_k4l) L_k4m rfl hcap
   (Zn (sh:= .g [.i .i64,.i .i64,.s]) (as:=[(.vi .i64 (.v 3)),(.vi .i64 (.v 4)),(.s (.v 5))]) (ar:=[some 3]) (k:=6) Don.g q Don.cells (fun x=>[.i x.seq,.i x.code,.l (dL x.tells)]) l
     L_k4l rfl hlen hcap (fun _ _=>rfl) (fun _ _=>rfl) (fun _ _ _ _=>rfl) har hc)
theorem Jng (p:Pln) (l:List Don) (hl:Wq Za l):Ev L f_k4u (p.cells++[.s (dDs l)]) [dB (J7 p.n l)]:=by
 refine JuV (vs:=[.i p.n,.l (Jd p.acts),.l (dL p.gives),.l (dL p.start),.l (dDs l)]) L_k4u rfl ?_;refine JuB ((l.length:Int)=p.n) (by show decide (((dDs l).length:Int)=p.n)=_;rw[Qz]) (fun h=>?_) (fun h=>Jun (by show [dB false]=_;simp[J7,h]));refine Jup (Jm2 (fun d=>!Xq d) l (fn:=f_k4t) (caps:=[]) hl.1 rfl rfl fun x hx=>by simpa using Jh9 x (hl.2 x hx)) rfl rfl rfl (Jun ?_);show [dB (!(l.any fun d=>!Xq d))]=_;rw[KB];simp[J7,h]
/- The program's MsgOk answers as the reference's: over residual programs. -/
def em (n:Nat):Bool:=decide (n=0)
def YH (x:Msg) (c v s d:Bool):Bool:=(c||Zs x.call)&&((v||em x.vals.length)&&((s||em x.seqs.length)&&(d||em x.done.length)))
theorem Wh (x:Msg) (c v s d:Bool):Ev L f_k1m (x.cells++[dB c,dB v,dB s,dB d]) [dB (YH x c v s d)]:=by
 refine JuV (vs:=[.i x.kind,.i x.to,.i x.frm,.i x.round,.i x.call.client,.i x.call.seq,.i x.call.act,.l (dL x.call.args),.l (dL x.vals),.l (dL x.seqs),.l (dDs x.done),.b c,.b v,.b s,.b d]) L_k1m rfl ?_;have ea:decide (((dL x.call.args).length:Int)=0)=em x.call.args.length:=Kb _ (dL1 _);have ev:decide (((dL x.vals).length:Int)=0)=em x.vals.length:=Kb _ (dL1 _);have es:decide (((dL x.seqs).length:Int)=0)=em x.seqs.length:=Kb _ (dL1 _);have ed:decide (((dDs x.done).length:Int)=0)=em x.done.length:=Kb _ (Qz _);have hn:Zs x.call=(decide (x.call.client=0)&&(decide (x.call.seq=0)&&(decide (x.call.act=0)&&em x.call.args.length))):=rfl;have fin :∀b,b=YH x c v s d→[dB b]=[dB (YH x c v s d)]:=fun b h=>by rw[h]
 have ed2:([dB (decide (((dDs x.done).length:Int)=0))]:List D)=[dB (em x.done.length)]:=by rw[ed]
 unfold YH at fin ⊢;rw[hn] at fin ⊢;generalize em x.call.args.length=ba at *;generalize em x.vals.length=bv at *;generalize em x.seqs.length=bs at *;generalize em x.done.length=bd at *;clear hn;generalize hb1:decide (x.call.client=0)=b1 at *;generalize hb2:decide (x.call.seq=0)=b2 at *;generalize hb3:decide (x.call.act=0)=b3 at *
 repeat' (first
  | exact Jun (fin true (by simp only[*,Bool.and_true,Bool.or_true,Bool.true_or,Bool.and_self,Bool.or_self]))
  | exact Jun (fin false (by simp only[*,Bool.and_false,Bool.false_and,Bool.or_self,Bool.or_false,Bool.false_or,Jvk,Bool.and_true,Bool.true_or,Bool.or_true,Bool.and_self]))
  | exact Jun (ed2.trans (fin _ (by simp only[*,Bool.or_self,Bool.or_false,Bool.false_or,Jvk,Bool.and_true,Bool.true_or,Bool.or_true,Bool.and_self])))
  | refine JuU c rfl (fun h=>?_) (fun h=>?_)
  | refine JuU v rfl (fun h=>?_) (fun h=>?_)
  | refine JuU s rfl (fun h=>?_) (fun h=>?_)
  | refine JuU d rfl (fun h=>?_) (fun h=>?_)
  | refine JuU ba ea (fun h=>?_) (fun h=>?_)
  | refine JuU bv ev (fun h=>?_) (fun h=>?_)
  | refine JuU bs es (fun h=>?_) (fun h=>?_)
  | refine JuU b1 hb1 (fun h=>?_) (fun h=>?_)
  | refine JuU b2 hb2 (fun h=>?_) (fun h=>?_)
  | refine JuU b3 hb3 (fun h=>?_) (fun h=>?_))
def ZB (p:Pln) (k:Int):Bool:=inB k 0 ((p.gives.length:Int)-1)
def J0 (p:Pln) (x:Msg):Bool:=inB x.round 0 200&&(
 if x.kind=1 then decide (x.to = -1)&&(decide (x.frm=0)&&(decide (x.round=0)&&(Jm p x.call&&YH x true false false false)))
 else if x.kind=2 then ZB p x.to&&(decide (x.frm=0)&&YH x false false false false)
 else if x.kind=3 then decide (x.to = -1)&&(ZB p x.frm&&(JK 3 20000 x.vals&&(Xb p.n x.seqs&&YH x false true true false)))
 else if x.kind=4 then ZB p x.to&&(decide (x.frm=0)&&(JQ x.vals&&(J7 p.n x.done&&YH x false true false true)))
 else false)
theorem Jc7 (p:Pln) (k:Int) (hp:JY p):Ev L f_k7 [dI k,dI 0,dI (i64.wrap (((dL p.gives).length:Int)-1))] [dB (ZB p k)]:=by
 rw[dL1,JdP hp.2.1];exact JT k 0 _
theorem JpK (p:Pln) (x:Msg) (hp:JY p) (h1:1≤p.n) (h2:p.n≤4) (hx:Vn x):Ev L f_k1o (p.cells++x.cells) [dB (J0 p x)]:=by
 refine JuV (vs:=[.i p.n,.l (Jd p.acts),.l (dL p.gives),.l (dL p.start),.i x.kind,.i x.to,.i x.frm,.i x.round,.i x.call.client,.i x.call.seq,.i x.call.act,.l (dL x.call.args),.l (dL x.vals),.l (dL x.seqs),.l (dDs x.done)]) L_k1o rfl ?_;refine Jup (JT x.round 0 200) rfl rfl rfl ?_;refine JuL (inB x.round 0 200) rfl (fun a=>Jun (by show [dB false]=_;simp[J0,a])) (fun a=>?_);refine JuB (x.kind=1) rfl (fun k1=>?_) (fun k1=>?_)
 ·have e:J0 p x=(decide (x.to = -1)&&(decide (x.frm=0)&&(decide (x.round=0)&&(Jm p x.call&&YH x true false false false)))):=by unfold J0;rw[if_pos k1,a,Jvk]
  rw[e];refine JuU (decide (x.to = -1)) rfl (fun b=>?_) (fun b=>Jun (by show [dB false]=_;simp[b]));refine JuU (decide (x.frm=0)) rfl (fun c=>?_) (fun b=>Jun (by show [dB false]=_;simp[b]));refine JuU (decide (x.round=0)) rfl (fun d=>?_) (fun b=>Jun (by show [dB false]=_;simp[b]));refine Jup (Qu p x.call hp h1 h2 hx.1) rfl rfl rfl ?_;refine JuU (Jm p x.call) rfl (fun f=>?_) (fun b=>Jun (by show [dB false]=_;simp[b]));refine Jup (Wh x true false false false) rfl rfl rfl (Jun ?_);rw[b,c,d,f];rfl
 refine JuB (x.kind=2) rfl (fun k2=>?_) (fun k2=>?_)
 ·have e:J0 p x=(ZB p x.to&&(decide (x.frm=0)&&YH x false false false false)):=by unfold J0;rw[if_neg k1,if_pos k2,a,Jvk]
  rw[e];refine Jup (Jc7 p x.to hp) rfl rfl rfl ?_;refine JuU (ZB p x.to) rfl (fun b=>?_) (fun b=>Jun (by show [dB false]=_;simp[b]));refine JuU (decide (x.frm=0)) rfl (fun c=>?_) (fun b=>Jun (by show [dB false]=_;simp[b]));refine Jup (Wh x false false false false) rfl rfl rfl (Jun ?_);rw[b,c];rfl
 refine JuB (x.kind=3) rfl (fun k3=>?_) (fun k3=>?_)
 ·have e:J0 p x=(decide (x.to = -1)&&(ZB p x.frm&&(JK 3 20000 x.vals&&(Xb p.n x.seqs&&YH x false true true false)))):=by unfold J0;rw[if_neg k1,if_neg k2,if_pos k3,a,Jvk]
  rw[e];refine JuU (decide (x.to = -1)) rfl (fun b=>?_) (fun b=>Jun (by show [dB false]=_;simp[b]));refine Jup (Jc7 p x.frm hp) rfl rfl rfl ?_;refine JuU (ZB p x.frm) rfl (fun c=>?_) (fun b=>Jun (by show [dB false]=_;simp[b]));refine Jup (Xx x.vals 3 20000 hx.2.1 (by omega) (by omega)) rfl rfl rfl ?_;refine JuU (JK 3 20000 x.vals) rfl (fun d=>?_) (fun b=>Jun (by show [dB false]=_;simp[b]));refine Jup (Jft p x.seqs hx.2.2.1) rfl rfl rfl ?_;refine JuU (Xb p.n x.seqs) rfl (fun f=>?_) (fun b=>Jun (by show [dB false]=_;simp[b]));refine Jup (Wh x false true true false) rfl rfl rfl (Jun ?_);rw[b,c,d,f];rfl
 refine JuB (x.kind=4) rfl (fun k4=>?_) (fun k4=>Jun (by show [dB false]=_;simp[J0,k1,k2,k3,k4]));have e:J0 p x=(ZB p x.to&&(decide (x.frm=0)&&(JQ x.vals&&(J7 p.n x.done&&YH x false true false true)))):=by unfold J0;rw[if_neg k1,if_neg k2,if_neg k3,if_pos k4,a,Jvk]
 rw[e];refine Jup (Jc7 p x.to hp) rfl rfl rfl ?_;refine JuU (ZB p x.to) rfl (fun b=>?_) (fun b=>Jun (by show [dB false]=_;simp[b]));refine JuU (decide (x.frm=0)) rfl (fun c=>?_) (fun b=>Jun (by show [dB false]=_;simp[b]));refine Jup (Zd x.vals hx.2.1) rfl rfl rfl ?_;refine JuU (JQ x.vals) rfl (fun d=>?_) (fun b=>Jun (by show [dB false]=_;simp[b]));refine Jup (Jbn p x.done hx.2.2.2) rfl rfl rfl ?_;refine JuU (J7 p.n x.done) rfl (fun f=>?_) (fun b=>Jun (by show [dB false]=_;simp[b]));refine Jup (Wh x false true false true) rfl rfl rfl (Jun ?_);rw[b,c,d,f];rfl
/- The program's SitOk and SitFree answer as the reference's: over residual programs. -/
theorem XN {p:Pln} (h:JJ p=true):Qx p.acts=true:=by
 simp only[JJ,Ju0] at h;exact h.2.1
def Xa (p:Pln) (b:List Int) (k:Int) (a:List Int):Bool:=keeps b p.gives (Jb p.acts) k a&&Qi (Jj p.acts) a
def QZ (p:Pln) (s:Sit) (k:Int):Bool:=inB s.round 0 200&&(JQ s.base&&(Xa p s.base k s.added&&J7 p.n s.done))
theorem Jce (p:Pln) (s:Sit):Ev L f_k1e (p.cells++s.cells) [.s (dL s.base),.s (dL p.gives)] :=
 JuV (vs:=[.i p.n,.l (Jd p.acts),.l (dL p.gives),.l (dL p.start),.b s.up,.b s.frozen,.i s.round,.l (dL s.base),.l (dL s.added),.l (dDs s.done)]) L_k1e rfl (Jun rfl)
theorem JpF (p:Pln) (s:Sit) (k:Int) (hp:JY p) (hs:KN s) (hc:Qx p.acts=true) :
  Ev L f_k1k (p.cells++[.s (dLL (Jb p.acts)),.s (dBl (Jj p.acts))]++s.cells++[dI k]) [dB (QZ p s k)]:=by
 refine JuV (vs:=[.i p.n,.l (Jd p.acts),.l (dL p.gives),.l (dL p.start),.l (dLL (Jb p.acts)),.l (dBl (Jj p.acts)),.b s.up,.b s.frozen,.i s.round,.l (dL s.base),.l (dL s.added),.l (dDs s.done),.i k]) L_k1k rfl ?_;have hps:fitLL (Jb p.acts):=(Xi p.acts).fitLL (by omega);refine Jup (JT s.round 0 200) rfl rfl rfl ?_;refine JuU (inB s.round 0 200) rfl (fun a=>?_) (fun b=>Jun (by show [dB false]=_;simp[QZ,b]));refine Jup (Zd s.base hs.1) rfl rfl rfl ?_;refine JuU (JQ s.base) rfl (fun d=>?_) (fun b=>Jun (by show [dB false]=_;simp[QZ,b]));refine Jup (Jce p s) rfl rfl rfl ?_;refine Jup (ZQ s.base p.gives (Jb p.acts) k s.added hs.1 hp.2.1 hps hs.2.1) rfl rfl rfl ?_;simp only[sC,sN];refine JuU (keeps s.base p.gives (Jb p.acts) k s.added) rfl (fun e=>?_) (fun b=>Jun (by show [dB false]=_;simp[QZ,Xa,b]));refine Jup (WY (Jj p.acts) s.added (VK hc) (Wi e)) rfl rfl rfl ?_;simp only[sC,sN];refine JuU (Qi (Jj p.acts) s.added) rfl (fun f=>?_) (fun b=>Jun (by show [dB false]=_;simp[QZ,Xa,b]));refine Jup (Jbn p s.done ⟨hs.2.2.1,hs.2.2.2⟩) rfl rfl rfl (Jun ?_);show [dB (J7 p.n s.done)]=_;simp[QZ,Xa,a,d,e,f]
end Go.Proofs.YtngcnclchcahlabGreatDoor
