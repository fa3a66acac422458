import Derived.Test.YtgpjnnkmmplicabGreatDoorR
import Derived.Test.YtgpjnnkmmplicabGreatDoorTd
set_option linter.unusedVariables false
set_option linter.unusedSimpArgs false
/- What the draws come to: a reader's picks,and what is drawn by them. -/
namespace Go.Proofs.YtgpjnnkmmplicabGreatDoor
open Go Go.Tm
open Go.IntKind (i64)
structure Rdr (bs:List Int) (p:Int):Prop where
 byte :∀x∈bs,0≤x∧x<256
 len:bs.length≤2000
 pos:0≤p
 far:p≤1000000000000
/- What draws of numbers come to. -/
theorem Rdr.go {bs:List Int} {p q:Int} (h:Rdr bs p) (h1:p≤q) (h2:q≤1000000000000):Rdr bs q:=⟨h.byte,h.len,by have:=h.pos;omega,h2⟩
/- What draws of treaties,of what sites have added,of forms and lines come to. -/
end Go.Proofs.YtgpjnnkmmplicabGreatDoor
/- What says whether forms,lines,acts are ok. -/
namespace Go.Proofs.YtgpjnnkmmplicabGreatDoor
open Go Go.Tm
open Go.IntKind (i64)
theorem Qn (n a b:Int):Ev L f_ks [dI n,dI a,dI b] [dB (inB n a b)]:=by
 refine JrA (vs:=[.i n,.i a,.i b]) L_ks rfl ?_;refine Jrx (a≤n) rfl (fun h=>JqZ ?_) (fun h=>JqZ ?_)
 ·show [dB (decide (n≤b))]=_;simp[inB,h]
 ·show [dB false]=_;simp[inB,h]
theorem XL (l:List Int) (n m:Int) (hl:l.length≤2000000) (h0:0≤m) (hm:m≤10000000000000):Ev L f_kt [.s (dL l),dI n,dI m] [dB (JE n m l)]:=by
 refine JrA (vs:=[.l (dL l),.i n,.i m]) L_kt rfl ?_;have c0:bol (Js [V.l (dL l),V.i n,V.i m]) (.not (.cmp .eq (.len (.v 0)) (.v 1)))=decide (¬(l.length:Int)=n):=by
  simp[bol,den,V.bool,V.int,V.lst,CO.sem,Js,dL1]
 refine Jrx (¬(l.length:Int)=n) c0 (fun h=>JqZ ?_) (fun h=>?_)
 ·show [dB false]=_;simp[JE,h]
 have h:(l.length:Int)=n:=by omega
 refine Jrr (fun k vs=>∃ i:Int,vs=[.i i]∧0≤i∧i≤l.length∧(k:Int)=l.length-i∧(l.take i.toNat).all (fun x=>inB x (0-m) m)=true) rfl l.length ⟨0,rfl,by omega,by omega,by omega,by simp⟩ ?_;rintro k _ ⟨i,rfl,i0,i1,hk,ha⟩;refine Jrx (i<((dL l).length:Int)) rfl (fun hi=>?_) (fun hi=>?_)
 ·rw[dL1] at hi;refine Jq9 (ds:=dL l) i rfl rfl rfl i0 (Ke i0 hi) rfl ?_;have hx:l[i.toNat]? = some (l.getD i.toNat 0):=by simp[JrH,show i.toNat<l.length by omega]
  generalize l.getD i.toNat 0=x at *;refine Jrt (args:=[dI x,dI (0-m),dI m]) rfl ?_ (Qn x (0-m) m) rfl ?_
  ·show [dI x,dI (i64.wrap (0-m)),dI m]=_;rw[w64 (by omega) (by omega)]
  refine Jrx (inB x (0-m) m=false) ?_ (fun hb=>?_) (fun hb=>?_)
  ·show (!(inB x (0-m) m))=_;cases inB x (0-m) m <;> rfl
  ·refine Jrg (JqZ ?_);show [dB false]=_;have hna:l.all (fun x=>inB x (0-m) m)=false:=Za (p:=fun x=>inB x (0-m) m) hx hb;simp only[JE,hna];simp
  ·refine Jrq (vs:=[.i (i+1)]) ?_ ⟨k-1,by omega,i+1,rfl,by omega,by omega,by omega,?_⟩
   ·show [V.i (i64.wrap (i+1))]=_;rw[w64 (by omega) (by omega)]
   ·rw[show (i+1).toNat=i.toNat+1 by omega];exact Q2 hx ha (by simpa using hb)
 ·rw[dL1] at hi;refine Jrg (JqZ ?_);show [dB true]=_;rw[JrI (by omega)] at ha;simp only[JE,h,ha];simp
def Frm.fit (f:Frm):Prop:=f.c.length≤2000000∧f.d.length≤2000000
theorem Wa (f:Frm) (hf:Frm.fit f):Ev L f_ku f.cells [dB f.small]:=by
 refine JrA (vs:=[.l (dL f.c),.l (dL f.d),.i f.k]) L_ku rfl ?_;refine Jrt (args:=[.s (dL f.c),dI 3,dI 2]) rfl rfl (XL f.c 3 2 hf.1 (by omega) (by omega)) rfl ?_;refine Jq5 (JE 3 2 f.c) rfl (fun h=>?_) (fun h=>JqZ ?_)
 ·refine Jrt (args:=[.s (dL f.d),dI 2,dI 2]) rfl rfl (XL f.d 2 2 hf.2 (by omega) (by omega)) rfl ?_;refine Jq5 (JE 2 2 f.d) rfl (fun h2=>?_) (fun h2=>JqZ ?_)
  ·refine Jrt (args:=[dI f.k,dI (-20),dI 20]) rfl rfl (Qn _ _ _) rfl ?_;refine JqZ ?_;show [dB (inB f.k (-20) 20)]=_;simp[Frm.small,h,h2]
  ·show [dB false]=_;simp[Frm.small,h,h2]
 ·show [dB false]=_;simp[Frm.small,h]
theorem JnL (f:Frm) (hf:Frm.fit f):Ev L f_k15 f.cells [dB f.ok]:=by
 refine JrA (vs:=[.l (dL f.c),.l (dL f.d),.i f.k]) L_k15 rfl ?_;refine Jrt (args:=[.s (dL f.c),dI 3,dI 10000000]) rfl rfl (XL f.c 3 10000000 hf.1 (by omega) (by omega)) rfl ?_;refine Jq5 (JE 3 10000000 f.c) rfl (fun h=>?_) (fun h=>JqZ ?_)
 ·refine Jrt (args:=[.s (dL f.d),dI 2,dI 10000000]) rfl rfl (XL f.d 2 10000000 hf.2 (by omega) (by omega)) rfl ?_;refine Jq5 (JE 2 10000000 f.d) rfl (fun h2=>?_) (fun h2=>JqZ ?_)
  ·refine Jrt (args:=[dI f.k,dI (-10000000),dI 10000000]) rfl rfl (Qn _ _ _) rfl ?_;refine JqZ ?_;show [dB (inB f.k (-10000000) 10000000)]=_;simp[Frm.ok,h,h2]
  ·show [dB false]=_;simp[Frm.ok,h,h2]
 ·show [dB false]=_;simp[Frm.ok,h]
theorem Jk9 (l:Jc) (hf:Frm.fit l.f):Ev L f_kv l.cells [dB l.ok]:=by
 refine JrA (vs:=[.i l.kind,.i l.pot,.i l.skip,.l (dL l.f.c),.l (dL l.f.d),.i l.f.k]) L_kv rfl ?_;refine Jrx (l.kind=1) rfl (fun h1=>?_) (fun h1=>?_)
 ·refine Jrx (l.pot=0) rfl (fun h2=>?_) (fun h2=>JqZ ?_)
  ·refine Jrt (args:=[dI l.skip,dI 1,dI 6]) rfl rfl (Qn _ _ _) rfl ?_;refine Jq5 (inB l.skip 1 6) rfl (fun h3=>?_) (fun h3=>JqZ ?_)
   ·refine Jrt (args:=l.f.cells) rfl rfl (Wa l.f hf) rfl (JqZ ?_);show [dB l.f.small]=_;simp[Jc.ok,h1,h2,h3]
   ·show [dB false]=_;simp[Jc.ok,h1,h2,h3]
  ·show [dB false]=_;simp[Jc.ok,h1,h2]
 refine Jrx (l.kind=2) rfl (fun h2=>?_) (fun h2=>?_)
 ·refine Jrt (args:=[dI l.pot,dI 0,dI 2]) rfl rfl (Qn _ _ _) rfl ?_;refine Jq5 (inB l.pot 0 2) rfl (fun h3=>?_) (fun h3=>JqZ ?_)
  ·refine Jrx (l.skip=0) rfl (fun h4=>?_) (fun h4=>JqZ ?_)
   ·refine Jrt (args:=l.f.cells) rfl rfl (Wa l.f hf) rfl (JqZ ?_);show [dB l.f.small]=_;simp[Jc.ok,h2,h3,h4]
   ·show [dB false]=_;simp[Jc.ok,h2,h3,h4]
  ·show [dB false]=_;simp[Jc.ok,h2,h3]
 refine Jrx (l.kind=3) rfl (fun h3=>?_) (fun h3=>?_)
 ·refine Jrx (l.pot=0) rfl (fun h4=>?_) (fun h4=>JqZ ?_)
  ·refine Jrx (l.skip=0) rfl (fun h5=>?_) (fun h5=>JqZ ?_)
   ·refine Jrt (args:=l.f.cells) rfl rfl (Wa l.f hf) rfl (JqZ ?_);show [dB l.f.small]=_;simp[Jc.ok,h3,h4,h5]
   ·show [dB false]=_;simp[Jc.ok,h3,h4,h5]
  ·show [dB false]=_;simp[Jc.ok,h3,h4]
 refine Jrx (l.kind=4) rfl (fun h4=>?_) (fun h4=>JqZ ?_)
 ·refine Jrx (l.pot=0) rfl (fun h5=>?_) (fun h5=>JqZ ?_)
  ·refine Jrx (l.skip=0) rfl (fun h6=>?_) (fun h6=>JqZ ?_)
   ·have hw:i64.wrap (((dL l.f.c).length:Int)+(dL l.f.d).length)=l.f.c.length+l.f.d.length:=by
     rw[dL1,dL1];have:=hf.1;have:=hf.2;exact w64 (by omega) (by omega)
    refine Jrx (((l.f.c.length:Int)+l.f.d.length)=0) ?_ (fun h7=>JqZ ?_) (fun h7=>JqZ ?_)
    ·show decide (i64.wrap (((dL l.f.c).length:Int)+(dL l.f.d).length)=0)=_;rw[hw]
    ·show [dB (decide (l.f.k=0))]=_;simp only[Jc.ok,h4,h5,h6,h7];simp
    ·show [dB false]=_;simp only[Jc.ok,h4,h5,h6,h7];simp
   ·show [dB false]=_;simp[Jc.ok,h4,h5,h6]
  ·show [dB false]=_;simp[Jc.ok,h4,h5]
 ·show [dB false]=_;simp[Jc.ok,h1,h2,h3,h4]
def Ym (a:List Jc):Prop:=a.length≤2000000∧∀l∈a,Frm.fit l.f
theorem Vm {a:List Jc} {i:Int} (h0:0≤i) (h1:i<a.length) : ∃ x,a[i.toNat]? = some x∧(Ji a)[i.toNat]? = some x.g:=Jj8 h0 h1
theorem JcN (a:List Jc) (ha:Ym a):Ev L f_kw [.s (Ji a)] [dB (Qh a)]:=by
 have hlen:=ha.1;refine JrA (vs:=[.l (Ji a)]) L_kw rfl ?_;refine Jrr (fun k vs=>∃ i:Int,vs=[.i (XQ (a.take i.toNat)),.i i]∧0≤i∧i≤a.length∧(k:Int)=a.length-i∧(a.take i.toNat).all Jc.ok=true) rfl a.length ⟨0,rfl,by omega,by omega,by omega,by simp⟩ ?_;rintro k _ ⟨i,rfl,i0,i1,hk,hal⟩;have htl:XQ (a.take i.toNat)≤a.length:=Nat.le_trans List.countP_le_length (by simp;omega);refine Jrx (i<((Ji a).length:Int)) rfl (fun hi=>?_) (fun hi=>?_)
 ·rw[JU] at hi;obtain⟨x,hx,hd⟩:=Vm i0 hi;have hfx:=ha.2 x (JrL hx);refine Jq9 (ds:=Ji a) i rfl rfl rfl i0 hd rfl ?_;refine Jrt (args:=x.cells) rfl rfl (Jk9 x hfx) rfl ?_;refine Jrx (x.ok=false) ?_ (fun hb=>?_) (fun hb=>?_)
  ·show (!x.ok)=_;cases x.ok <;> rfl
  ·refine Jrg (JqZ ?_);show [dB false]=_;simp[Qh,Za hx hb]
  ·have hb:x.ok=true:=by simpa using hb
   refine Jq9 (ds:=Ji a) i rfl rfl rfl i0 hd rfl ?_;have ht:XQ (a.take (i+1).toNat)=XQ (a.take i.toNat)+if x.kind=1 then 1 else 0:=by
    rw[show (i+1).toNat=i.toNat+1 by omega,tS1 hx];simp[XQ,List.countP_append,List.countP_cons]
   have hal':(a.take (i+1).toNat).all Jc.ok=true:=by
    rw[show (i+1).toNat=i.toNat+1 by omega];exact Q2 hx hal hb
   refine Jrx (x.kind=1) rfl (fun h1=>?_) (fun h1=>?_)
   ·refine Jrq (vs:=[.i (XQ (a.take (i+1).toNat)),.i (i+1)]) ?_ ⟨k-1,by omega,i+1,rfl,by omega,by omega,by omega,hal'⟩;show [V.i (i64.wrap ((XQ (a.take i.toNat):Int)+1)),V.i (i64.wrap (i+1))]=_;rw[w64 (n:=i+1) (by omega) (by omega),w64 (by omega) (by omega),ht,if_pos h1];rfl
   ·refine Jrq (vs:=[.i (XQ (a.take (i+1).toNat)),.i (i+1)]) ?_ ⟨k-1,by omega,i+1,rfl,by omega,by omega,by omega,hal'⟩;show [V.i (XQ (a.take i.toNat):Int),V.i (i64.wrap (i+1))]=_;rw[w64 (n:=i+1) (by omega) (by omega),ht,if_neg h1];rfl
 ·rw[JU] at hi;rw[JrI (by omega)] at hal htl ⊢;refine Jrg ?_;refine Jrx (((Ji a).length:Int)≤6) rfl (fun h6=>JqZ ?_) (fun h6=>JqZ ?_)
  ·rw[JU] at h6;show [dB (decide ((XQ a:Int)≤3))]=_;simp only[Qh,hal,h6];simp
  ·rw[JU] at h6;show [dB false]=_;simp only[Qh,h6];simp
/- What draws of forms,lines,acts come to. -/
theorem Zo:Ev L f_k11 [] Frm.zero.cells:=JrA (vs:=[]) L_k11 rfl (JqZ rfl)
def slim (l:Jc):Prop:=l.f.c.length≤3∧l.f.d.length≤2
/- What draws of acts come to. -/
def JmB (a:List Jc):Prop:=a.length≤5∧(∀l∈a,slim l)∧Qh a=true
theorem JmB.fit {a:List Jc} (h:JmB a):Ym a:=⟨by have:=h.1;omega,fun l hl=>⟨by have:=(h.2.1 l hl).1;omega,by have:=(h.2.1 l hl).2;omega⟩⟩
def Jm9 (as:List (List Jc)):Prop:=as.length≤4∧∀a∈as,JmB a
/- What sums of forms and the ways through an act come to: the reference's. -/
theorem Vu {x y n M N:Int} (hx : -M≤x∧x≤M) (hy : -M≤y∧y≤M) (hn : -N≤n∧n≤N) (hM:M≤1000000000) (hN:N≤1000000000):i64.wrap (x+i64.wrap (n*y))=x+n*y:=by
 have h:=ZU (A:=1000000000) (B:=1000000000) (n:=n) (y:=y) (by omega) (by omega);rw[w64 (n:=n*y) (by omega) (by omega),w64 (by omega) (by omega)]
theorem U6 {a b:Frm} {n M:Int} (ha:Std M a) (hb:Std M b) (hM:M≤1000000000) (hn : -1000000000≤n∧n≤1000000000) :
  Ev L f_k13 (a.cells++b.cells++[dI n]) (JI a b n).cells:=by
 refine JrA (vs:=[.l (dL a.c),.l (dL a.d),.i a.k,.l (dL b.c),.l (dL b.d),.i b.k,.i n]) L_k13 rfl ?_;refine Jrt (args:=[]) rfl rfl Zo rfl ?_;have hc:=ha.c;have hc':=hb.c;have hd:=ha.d;have hd':=hb.d;have hS:(JJ a.c b.c n).length=3:=by rw[UD];omega
 have hT:(JJ a.d b.d n).length=2:=by rw[UD];omega
 refine Jrr (fun m vs=>∃ i:Nat,i≤3∧m=3-i∧vs=[.l (dL ((JJ a.c b.c n).take i++([0,0,0]:List Int).drop i)),.i i]) rfl 3 ⟨0,by omega,rfl,rfl⟩ ?_;rintro m _ ⟨i,hi,hm,rfl⟩;refine Jrx ((i:Int)<3) rfl (fun h=>?_) (fun h=>?_)
 ·refine Jq9 (ds:=dL a.c) i rfl rfl rfl (by omega) (Ke (by omega) (by omega)) rfl ?_;refine Jq9 (ds:=dL b.c) i rfl rfl rfl (by omega) (Ke (by omega) (by omega)) rfl ?_;refine Jq7 ((0:Int)≤i) rfl (by omega) ?_;have hlen:((JJ a.c b.c n).take i++([0,0,0]:List Int).drop i).length=3:=by simp[hS];omega
  refine Jq7 ((i:Int)<((dL ((JJ a.c b.c n).take i++([0,0,0]:List Int).drop i)).length:Int)) rfl (by rw[dL1,hlen];omega) ?_;refine Jq9 (ds:=dL ((JJ a.c b.c n).take i++([0,0,0]:List Int).drop i)) i rfl rfl rfl (by omega) (Ke (by omega) (by omega)) rfl ?_;refine Jrq (vs:=[.l (dL ((JJ a.c b.c n).take (i+1)++([0,0,0]:List Int).drop (i+1))),.i ((i+1:Nat):Int)]) ?_ ⟨m-1,by omega,i+1,by omega,by omega,rfl⟩;show [V.l ((dL ((JJ a.c b.c n).take i++([0,0,0]:List Int).drop i)).set (i:Int).toNat (dI (i64.wrap (a.c.getD (i:Int).toNat 0+i64.wrap (n*b.c.getD (i:Int).toNat 0))))),V.i (i64.wrap ((i:Int)+1))]=_;have hx:=KU ha.lc (k:=(i:Int).toNat) (by omega);have hy:=KU hb.lc (k:=(i:Int).toNat) (by omega);rw[Vu hx hy hn hM (by omega),Kk,Int.toNat_natCast,fill (by rw[hS];rfl),w64 (by omega) (by omega)]
  ·rfl
  ·exact JhD (by omega) (by omega)
 refine Jrg ?_;have hi3:i=3:=by omega
 subst hi3;rw[JrI (by omega),show ([0,0,0]:List Int).drop 3=[] from rfl,List.append_nil];refine Jrr (fun m vs=>∃ i:Nat,i≤2∧m=2-i∧vs=[.l (dL ((JJ a.d b.d n).take i++([0,0]:List Int).drop i)),.i i]) rfl 2 ⟨0,by omega,rfl,rfl⟩ ?_;rintro m _ ⟨i,hi,hm,rfl⟩;refine Jrx ((i:Int)<2) rfl (fun h=>?_) (fun h=>?_)
 ·refine Jq9 (ds:=dL a.d) i rfl rfl rfl (by omega) (Ke (by omega) (by omega)) rfl ?_;refine Jq9 (ds:=dL b.d) i rfl rfl rfl (by omega) (Ke (by omega) (by omega)) rfl ?_;refine Jq7 ((0:Int)≤i) rfl (by omega) ?_;have hlen:((JJ a.d b.d n).take i++([0,0]:List Int).drop i).length=2:=by simp[hT];omega
  refine Jq7 ((i:Int)<((dL ((JJ a.d b.d n).take i++([0,0]:List Int).drop i)).length:Int)) rfl (by rw[dL1,hlen];omega) ?_;refine Jq9 (ds:=dL ((JJ a.d b.d n).take i++([0,0]:List Int).drop i)) i rfl rfl rfl (by omega) (Ke (by omega) (by omega)) rfl ?_;refine Jrq (vs:=[.l (dL ((JJ a.d b.d n).take (i+1)++([0,0]:List Int).drop (i+1))),.i ((i+1:Nat):Int)]) ?_ ⟨m-1,by omega,i+1,by omega,by omega,rfl⟩;show [V.l ((dL ((JJ a.d b.d n).take i++([0,0]:List Int).drop i)).set (i:Int).toNat (dI (i64.wrap (a.d.getD (i:Int).toNat 0+i64.wrap (n*b.d.getD (i:Int).toNat 0))))),V.i (i64.wrap ((i:Int)+1))]=_;have hx:=KU ha.ld (k:=(i:Int).toNat) (by omega);have hy:=KU hb.ld (k:=(i:Int).toNat) (by omega);rw[Vu hx hy hn hM (by omega),Kk,Int.toNat_natCast,fill (by rw[hT];rfl),w64 (by omega) (by omega)]
  ·rfl
  ·exact JhD (by omega) (by omega)
 refine Jrg ?_;have hi2:i=2:=by omega
 subst hi2;rw[JrI (by omega),show ([0,0]:List Int).drop 2=[] from rfl,List.append_nil];refine JqZ ?_;show [D.s (dL (JJ a.c b.c n)),.s (dL (JJ a.d b.d n)),dI (i64.wrap (a.k+i64.wrap (n*b.k)))]=_;rw[Vu ha.k hb.k hn hM (by omega)];rfl
theorem KK (v:Int) (h0:0≤v) (h2:v≤2):Ev L f_k12 [dI v] (JA v.toNat).cells:=by
 refine JrA (vs:=[.i v]) L_k12 rfl ?_;refine Jrt (args:=[dI v,dI 0,dI 2]) rfl rfl (Qn v 0 2) rfl ?_;refine Jra (by show (!(inB v 0 2))=false;simp[inB,h0,h2]) ?_;refine Jrt (args:=[]) rfl rfl Zo rfl ?_;refine Jq7 (0≤v) rfl h0 ?_;refine Jq7 (v<3) rfl (by omega) ?_;refine Jq9 (ds:=dL [0,0,0]) v rfl rfl rfl h0 (Ke h0 (by simp;omega)) rfl ?_;refine JqZ ?_;show [D.s ((dL [0,0,0]).set v.toNat (dI 1)),.s (dL [0,0]),dI 0]=_;rw[Kk];rfl
theorem X1 {l:List Frm} {M:Int} (hl:l.length≤2000000) (hs :∀f∈l,Std M f) (h0:0≤M) (hM:M≤1000000000):Ev L f_k14 [.s (dF l)] [.s (dF l)]:=by
 refine JrA (vs:=[.l (dF l)]) L_k14 rfl ?_;refine Jrr (fun m vs=>∃ i:Int,0≤i∧i≤l.length∧(m:Int)=l.length-i∧vs=[.l (dF (l.take i.toNat)),.i i]) rfl l.length ⟨0,by omega,by omega,by omega,rfl⟩ ?_;rintro m _ ⟨i,i0,i1,hm,rfl⟩;refine Jrx (i<((dF l).length:Int)) rfl (fun hi=>?_) (fun hi=>?_)
 ·rw[JS] at hi;refine Jrt (args:=[]) rfl rfl Zo rfl ?_;obtain⟨x,hx,hd⟩:=JaC i0 hi;have hsx:=hs x (JrL hx);refine Jq9 (ds:=dF l) i rfl rfl rfl i0 hd rfl ?_;have e:=U6 (Xg.mono h0) hsx hM (n:=1) (by omega);rw[Jfi hsx] at e;refine Jrt (args:=Frm.zero.cells++x.cells++[dI 1]) rfl rfl e rfl ?_;refine Jrn (dF (l.take i.toNat)++[x.g]) rfl (by rw[QM,JS];simp;omega) ?_;refine Jrq (vs:=[.l (dF (l.take (i+1).toNat)),.i (i+1)]) ?_ ⟨m-1,by omega,i+1,by omega,by omega,by omega,rfl⟩;show [V.l (dF (l.take i.toNat)++[x.g]),V.i (i64.wrap (i+1))]=_;rw[QM,show (i+1).toNat=i.toNat+1 by omega,tS1 hx,w64 (by omega) (by omega)]
 ·rw[JS] at hi;refine Jrg (JqZ ?_);show [D.s (dF (l.take i.toNat))]=_;rw[JrI (by omega)]
theorem JjJ {f:Frm} {M:Int} (hf:Std M f) (h0:0≤M) (hM:M≤100000000):Ev L f_k17 f.cells (Qu f).cells:=by
 refine JrA (vs:=[.l (dL f.c),.l (dL f.d),.i f.k]) L_k17 rfl ?_;refine Jrt (args:=[]) rfl rfl Zo rfl ?_;refine Jrt (args:=Frm.zero.cells++f.cells++[dI (-1)]) rfl rfl (U6 (Xg.mono h0) hf (by omega) (by omega)) rfl ?_;refine JqZ ?_;have hk:=(Qs Xg hf (n:=-1) (N:=1) (by omega)).k;show [D.s (dL (JI Frm.zero f (-1)).c),.s (dL (JI Frm.zero f (-1)).d),dI (i64.wrap ((JI Frm.zero f (-1)).k-1))]=_;rw[w64 (by omega) (by omega)];rfl
theorem Jjx {f:Frm} {pots:List Frm} {M:Int} (hf:f.small=true) (hl:pots.length=3) (hp :∀p∈pots,Std M p) (h0:0≤M) (hM:M≤1000000) :
  Ev L f_k16 (f.cells++[.s (dF pots)]) (Jo f pots).cells:=by
 obtain⟨f1,f2,f3,f4,f5⟩:=Q7 hf;have hfs:=Jet hf;refine JrA (vs:=[.l (dL f.c),.l (dL f.d),.i f.k,.l (dF pots)]) L_k16 rfl ?_;have ok :∀g:Frm,Std (20+6*M) g→Ev L f_k15 g.cells [dB true]:=fun g hg=>by
  have:=JnL g hg.fit
  rwa [hg.okF (by omega)] at this
 refine Jrt (args:=f.cells) rfl rfl (ok f (hfs.mono (by omega))) rfl ?_;refine Jra rfl ?_;have c0:bol (Js ([V.l (dL f.c),V.l (dL f.d),V.i f.k,V.l (dF pots)]++[V.b true])) (.not (.cmp .eq (.len (.v 3)) (.z 3)))=decide (¬(pots.length:Int)=3):=by
  simp[bol,den,V.bool,V.int,V.lst,CO.sem,Js,JS]
 refine Jrx (¬(pots.length:Int)=3) c0 (fun h=>by omega) (fun _=>?_);obtain⟨p0,h00,d0⟩:=JaC (l:=pots) (i:=0) (by omega) (by omega);obtain⟨p1,h11,d1⟩:=JaC (l:=pots) (i:=1) (by omega) (by omega);obtain⟨p2,h22,d2⟩:=JaC (l:=pots) (i:=2) (by omega) (by omega);refine Jq9 (ds:=dF pots) 0 rfl rfl rfl (by omega) d0 rfl ?_;refine Jrt (args:=p0.cells) rfl rfl (ok p0 ((hp p0 (JrL h00)).mono (by omega))) rfl ?_;refine Jra rfl ?_;refine Jq9 (ds:=dF pots) 1 rfl rfl rfl (by omega) d1 rfl ?_;refine Jrt (args:=p1.cells) rfl rfl (ok p1 ((hp p1 (JrL h11)).mono (by omega))) rfl ?_;refine Jra rfl ?_;refine Jq9 (ds:=dF pots) 2 rfl rfl rfl (by omega) d2 rfl ?_;refine Jrt (args:=p2.cells) rfl rfl (ok p2 ((hp p2 (JrL h22)).mono (by omega))) rfl ?_;refine Jra rfl ?_;refine Jrn (dL f.d) rfl (by rw[dL1];omega) ?_;refine Jro (by show XZ 1 (dL f.d)=true;cases f.d <;> rfl) ?_;refine Jrn (dL f.d) rfl (by rw[dL1];omega) ?_
 let acc:Nat→Frm:=fun i=>(List.zip (pots.take i) (f.c.take i)).foldl (fun x q=>JI x q.1 q.2) ⟨[0,0,0],f.d,f.k⟩
 have hacc :∀i,i≤3→Std (20+6*M) (acc i):=fun i hi=>by
  rcases JcB hf hp h0 i hi with h | h
  ·refine h.mono ?_;have:2*M*(i:Int)≤2*M*3:=Int.mul_le_mul_of_nonneg_left (by omega) (by omega);omega
  ·omega
 refine Jrr (fun m vs=>∃ i:Nat,i≤3∧m=3-i∧vs=[.l (dL (acc i).c),.l (dL (acc i).d),.i i,.i (acc i).k]) rfl 3 ⟨0,by omega,rfl,rfl⟩ ?_;rintro m _ ⟨i,hi,hm,rfl⟩;refine Jrx ((i:Int)<3) rfl (fun h=>?_) (fun h=>?_)
 ·obtain⟨x,hx,hd⟩:=JaC (l:=pots) (i:=(i:Int)) (by omega) (by omega);have hsx:=hp x (JrL hx);refine Jq9 (ds:=dF pots) i rfl rfl rfl (by omega) hd rfl ?_;refine Jq9 (ds:=dL f.c) i rfl rfl rfl (by omega) (Ke (by omega) (by omega)) rfl ?_;have hy:=KU f3 (k:=(i:Int).toNat) (by omega);have hn:acc (i+1)=JI (acc i) x (f.c.getD (i:Int).toNat 0):=by
   rw[Int.toNat_natCast] at hx;have e2:f.c[i]? = some (f.c.getD (i:Int).toNat 0):=by simp[JrH,show i<f.c.length by omega]
   simp only[acc];rw[tS1 hx,tS1 e2,List.zip_append (by simp;omega),List.foldl_append];rfl
  refine Jrt (args:=(acc i).cells++x.cells++[dI (f.c.getD (i:Int).toNat 0)]) rfl rfl (U6 (hacc i hi) (hsx.mono (by omega)) (by omega) (by omega)) rfl ?_;refine Jrq (vs:=[.l (dL (acc (i+1)).c),.l (dL (acc (i+1)).d),.i ((i+1:Nat):Int),.i (acc (i+1)).k]) ?_ ⟨m-1,by omega,i+1,by omega,by omega,rfl⟩;rw[hn];show [V.l _,V.l _,V.i (i64.wrap ((i:Int)+1)),V.i _]=_;rw[w64 (by omega) (by omega)];rfl
 refine Jrg ?_;have hi3:i=3:=by omega
 subst hi3;refine Jrt (args:=(acc 3).cells) rfl rfl (ok _ (hacc 3 (by omega))) rfl ?_;refine Jra rfl ?_;refine JqZ ?_;show (acc 3).cells=_;simp only[acc];rw[JrI (by omega),JrI (by omega)];rfl
/- What the reference's ways through an act come to. -/
theorem Jh3 {l:List Frm} {i:Nat} (h:i<l.length):l.getD i Frm.none∈l∧l[i]? = some (l.getD i Frm.none):=by
 rw[JrH,JrP h];exact⟨List.getElem_mem h,rfl⟩
def Zt (p:List Frm):List Frm:=[JI (p.getD 0 Frm.none) (JA 0) (-1),JI (p.getD 1 Frm.none) (JA 1) (-1),JI (p.getD 2 Frm.none) (JA 2) (-1)]
theorem JmW {p g t:List Frm} {M:Int} (hp:p.length=3) (sp :∀f∈p,Std M f) (hg:g.length≤2000000) (sg :∀f∈g,Std M f) (ht:t.length≤2000000) (st :∀f∈t,Std M f) (h0:1≤M) (hM:M≤1000000000) :
  Ev L f_k18 [.s (dF p),.s (dF g),.s (dF t)] (YL p g t).cells:=by
 refine JrA (vs:=[.l (dF p),.l (dF g),.l (dF t)]) L_k18 rfl ?_;refine Jrt (args:=[.s (dF g)]) rfl rfl (X1 hg sg (by omega) hM) rfl ?_;refine Jrt (args:=[.s (dF t)]) rfl rfl (X1 ht st (by omega) hM) rfl ?_;refine Jrr (fun m vs=>∃ i:Nat,i≤3∧m=3-i∧vs=[.l (dF ((Zt p).take i)),.i i]) rfl 3 ⟨0,by omega,rfl,rfl⟩ ?_;rintro m _ ⟨i,hi,hm,rfl⟩;refine Jrx ((i:Int)<3) rfl (fun h=>?_) (fun h=>?_)
 ·obtain⟨x,hx,hd⟩:=JaC (l:=p) (i:=(i:Int)) (by omega) (by omega);have hsx:=sp x (JrL hx);refine Jq9 (ds:=dF p) i rfl rfl rfl (by omega) hd rfl ?_;refine Jrt (args:=[dI i]) rfl rfl (KK i (by omega) (by omega)) rfl ?_;rw[Int.toNat_natCast] at hx;refine Jrt (args:=x.cells++(JA (i:Int).toNat).cells++[dI (-1)]) rfl rfl (U6 hsx (QW.mono h0) hM (by omega)) rfl ?_;have hn:(Zt p)[i]? = some (JI x (JA (i:Int).toNat) (-1)):=by
   have e:p.getD i Frm.none=x:=by rw[JrH,hx];rfl
   subst e;rw[Int.toNat_natCast]
   match i,h with
   | 0,_=>rfl
   | 1,_=>rfl
   | 2,_=>rfl
   | n+3,h=>omega
  refine Jrn (dF ((Zt p).take i)++[(JI x (JA (i:Int).toNat) (-1)).g]) rfl (by rw[QM,JS];simp;omega) ?_;refine Jrq (vs:=[.l (dF ((Zt p).take (i+1))),.i ((i+1:Nat):Int)]) ?_ ⟨m-1,by omega,i+1,by omega,by omega,rfl⟩;show [V.l (dF ((Zt p).take i)++[(JI x (JA (i:Int).toNat) (-1)).g]),V.i (i64.wrap ((i:Int)+1))]=_;rw[QM,tS1 hn,w64 (by omega) (by omega)];rfl
 ·refine Jrg (JqZ ?_);have hi3:i=3:=by omega
  subst hi3;rfl
structure Qi (act:List Jc):Prop where
 len:act.length≤6
 ok :∀l∈act,l.ok=true
theorem JdC {act:List Jc} (h:Qh act=true):Qi act:=by
 simp only[Qh,JrE,decide_eq_true_eq,JrR] at h;exact⟨by omega,h.1.1⟩
theorem Jix {l:Jc} (h:l.ok=true) (h4 : ¬l.kind=4):l.f.small=true:=by
 unfold Jc.ok at h;split at h
 ·simp only[JrE] at h;exact h.2
 split at h
 ·simp only[JrE] at h;exact h.2
 split at h
 ·simp only[JrE] at h;exact h.2
 ·simp[h4] at h
theorem JcV {l:Jc} (h:l.ok=true) (h2:l.kind=2):0≤l.pot∧l.pot≤2:=by
 unfold Jc.ok at h;rw[if_neg (by omega),if_pos h2] at h;simp only[JrE,JG] at h;exact h.1.1
theorem VG {l:Jc} (h:l.ok=true) (h1:l.kind=1):1≤l.skip∧l.skip≤6:=by
 unfold Jc.ok at h;rw[if_pos h1] at h;simp only[JrE,JG] at h;exact h.1.2
theorem Ya {α:Type} {l:List α} {i:Nat} {x:α} (h:l[i]? = some x):l.drop i=x::l.drop (i+1):=by
 obtain⟨h1,h2⟩:=JrF.1 h;rw[List.drop_eq_getElem_cons h1,h2]
theorem KB {α:Type} {l:List α} {x:α} {p:α→Prop} (h :∀y∈l,p y) (hx:p x) :∀y∈l++[x],p y:=by
 intro y hy;rcases JrJ.1 hy with hy | hy
 ·exact h y hy
 ·simp at hy;subst hy;exact hx
theorem JkZ (a b:List Row):JV a++JV b=JV (a++b):=by simp[JV]
set_option maxHeartbeats 4000000 in
theorem JlX {act:List Jc} (hact:Qi act) :∀(n:Nat) (at_:Int) (p g t:List Frm) (j:Nat),0≤at_→at_≤20→act.length-at_.toNat=n→(j:Int)≤at_→j≤6 →
  p.length=3→(∀f∈p,Std (Bd j) f)→g.length≤j→(∀f∈g,Std 10000000 f)→t.length≤j→(∀f∈t,Std 10000000 f) →
  Ev L f_k19 [.s (Ji act),dI at_,.s (dF p),.s (dF g),.s (dF t)] [.s (JV (walk (act.drop at_.toNat) p g t))]:=by
 intro n
 induction n using Nat.strongRecOn with
 | _ n ih =>
  intro at_ p g t j a0 a20 hn hj hj6 hp sp hg sg ht st;have hal:=hact.len;refine JrA (vs:=[.l (Ji act),.i at_,.l (dF p),.l (dF g),.l (dF t)]) L_k19 rfl ?_;refine Jrr (fun m vs=>∃ (i:Int) (p' t':List Frm) (j':Nat),vs=[.l (dF p'),.l (dF t'),.i i]∧at_≤i∧i≤20∧m=act.length-i.toNat∧(j':Int)≤i∧j≤j'∧j'≤6∧p'.length=3∧(∀f∈p',Std (Bd j') f)∧t'.length≤j'∧(∀f∈t',Std 10000000 f) ∧
   walk (act.drop i.toNat) p' g t'=walk (act.drop at_.toNat) p g t) rfl (act.length-at_.toNat) ⟨at_,p,t,j,rfl,by omega,a20,rfl,hj,by omega,hj6,hp,sp,ht,st,rfl⟩ ?_
  rintro m _ ⟨i,p',t',j',rfl,ai,i20,hm,hj',hjj,hj6',hp',sp',ht',st',hw⟩;have hB:=Jht hj6';have hB0:=YI j';refine Jrx (i<((Ji act).length:Int)) rfl (fun hi=>?_) (fun hi=>?_)
  ·rw[JU] at hi;obtain⟨l,hl,hd⟩:=Vm (a:=act) (i:=i) (by omega) hi;have hok:=hact.ok l (JrL hl);have hdr:=Ya hl;have hs1:(i+1).toNat=i.toNat+1:=by omega
   refine Jq9 (ds:=Ji act) i rfl rfl rfl (by omega) hd rfl ?_;refine Jrx (l.kind=4) rfl (fun h4=>?_) (fun h4=>?_)
   ·refine Jrt (args:=[.s (dF g)]) rfl rfl (X1 (by omega) sg (by omega) (by omega)) rfl ?_;refine Jrg (JqZ ?_);show [D.s [D.g [.s (dF g),.s [],.s [],dB true]]]=_;rw[←hw,hdr,walk,if_pos h4];rfl
   have hsm:=Jix hok h4;have hin:=UC hsm hp' sp' hB0;have hin7:Std 10000000 (Jo l.f p'):=hin.mono (by omega);refine Jrt (args:=l.f.cells++[.s (dF p')]) rfl rfl (Jjx hsm hp' sp' hB0 (by omega)) rfl ?_;have hj5:j'<6:=by omega
   refine Jrx (l.kind=1) rfl (fun h1=>?_) (fun h1=>?_)
   ·have hsk:=VG hok h1;have hg':(g++[Jo l.f p']).length≤j'+1:=by simp;omega
    have hg2:(g++[Qu (Jo l.f p')]).length≤j'+1:=by simp;omega
    have hmin:Std 10000000 (Qu (Jo l.f p')):=(Wq hin).mono (by omega);have spB :∀f∈p',Std (Bd (j'+1)) f:=fun f hf=>(sp' f hf).mono (Z1 (by omega));have cp:=X1 (by omega:p'.length≤2000000) sp' hB0 (by omega);have cg:=X1 (by omega:g.length≤2000000) sg (by omega) (by omega);have ct:=X1 (by omega:t'.length≤2000000) st' (by omega) (by omega);refine Jrt (args:=[.s (dF p')]) rfl rfl cp rfl ?_;refine Jrt (args:=[.s (dF g)]) rfl rfl cg rfl ?_;refine Jrn (dF g++[(Jo l.f p').g]) rfl (by rw[QM,JS];omega) ?_;refine Jrt (args:=[.s (dF t')]) rfl rfl ct rfl ?_;have e1:=ih (act.length-(i+1).toNat) (by omega) (i+1) p' (g++[Jo l.f p']) t' (j'+1) (by omega) (by omega) rfl (by omega) (by omega) hp' spB hg' (KB sg hin7) (by omega) st';refine Jrt (args:=[.s (Ji act),dI (i+1),.s (dF p'),.s (dF (g++[Jo l.f p'])),.s (dF t')]) rfl ?_ e1 rfl ?_
    ·show [D.s (Ji act),dI (i64.wrap (i+1)),.s (dF p'),.s (dF g++[(Jo l.f p').g]),.s (dF t')]=_;rw[QM,w64 (by omega) (by omega)]
    refine Jrt (args:=[.s (dF p')]) rfl rfl cp rfl ?_;refine Jrt (args:=[.s (dF g)]) rfl rfl cg rfl ?_;refine Jrt (args:=(Jo l.f p').cells) rfl rfl (JjJ hin7 (by omega) (by omega)) rfl ?_;refine Jrn (dF g++[(Qu (Jo l.f p')).g]) rfl (by rw[QM,JS];omega) ?_;refine Jrt (args:=[.s (dF t')]) rfl rfl ct rfl ?_;have e2:=ih (act.length-(i+1+l.skip).toNat) (by omega) (i+1+l.skip) p' (g++[Qu (Jo l.f p')]) t' (j'+1) (by omega) (by omega) rfl (by omega) (by omega) hp' spB hg2 (KB sg hmin) (by omega) st';refine Jrt (args:=[.s (Ji act),dI (i+1+l.skip),.s (dF p'),.s (dF (g++[Qu (Jo l.f p')])),.s (dF t')]) rfl ?_ e2 rfl ?_
    ·show [D.s (Ji act),dI (i64.wrap (i64.wrap (i+1)+l.skip)),.s (dF p'),.s (dF g++[(Qu (Jo l.f p')).g]),.s (dF t')]=_;rw[QM,w64 (n:=i+1) (by omega) (by omega),w64 (by omega) (by omega)]
    have wl :∀(k:Nat) (a b c:List Frm),(walk (act.drop k) a b c).length≤64:=fun k a b c=>by
     refine Nat.le_trans (JhG _ _ _ _) ?_;exact Nat.le_trans (Nat.pow_le_pow_right (by omega) (show (act.drop k).length≤6 by simp;omega)) (by decide)
    have w1:=wl (i+1).toNat p' (g++[Jo l.f p']) t';have w2:=wl (i+1+l.skip).toNat p' (g++[Qu (Jo l.f p')]) t';refine Jrn (JV (walk (act.drop (i+1+l.skip).toNat) p' (g++[Qu (Jo l.f p')]) t')) rfl (by rw[X3];omega) ?_;refine Jro (Jlk _) ?_;refine Jrn (JV (walk (act.drop (i+1).toNat) p' (g++[Jo l.f p']) t')++JV (walk (act.drop (i+1+l.skip).toNat) p' (g++[Qu (Jo l.f p')]) t')) rfl (by rw[JrK,X3,X3];omega) ?_;refine Jrg (JqZ ?_);show [D.s (JV (walk (act.drop (i+1).toNat) p' (g++[Jo l.f p']) t')++JV (walk (act.drop (i+1+l.skip).toNat) p' (g++[Qu (Jo l.f p')]) t'))]=_;rw[JkZ,←hw,hdr,walk,if_neg h4,if_pos h1,List.drop_drop,hs1,show i.toNat+1+l.skip.toNat=(i+1+l.skip).toNat by omega]
   refine Jrx (l.kind=2) rfl (fun h2=>?_) (fun h2=>?_)
   ·have hpt:=JcV hok h2;have hlt:l.pot.toNat<p'.length:=by omega
    obtain⟨hm1,hm2⟩:=Jh3 hlt;have hdg:(dF p')[l.pot.toNat]? = some (p'.getD l.pot.toNat Frm.none).g:=mA1 (f:=Frm.g) hm2;refine Jrt (args:=[.s (dF p')]) rfl rfl (X1 (by omega) sp' hB0 (by omega)) rfl ?_;refine Jq7 (0≤l.pot) rfl hpt.1 ?_;refine Jq7 (l.pot<((dF p').length:Int)) rfl (by rw[JS];omega) ?_;refine Jq9 (ds:=dF p') l.pot rfl rfl rfl hpt.1 hdg rfl ?_;refine Jrt (args:=(p'.getD l.pot.toNat Frm.none).cells++(Jo l.f p').cells++[dI 1]) rfl rfl (U6 ((sp' _ hm1).mono (by omega)) hin7 (by omega) (by omega)) rfl ?_;refine Jq7 (0≤l.pot) rfl hpt.1 ?_;refine Jq7 (l.pot<((dF p').length:Int)) rfl (by rw[JS];omega) ?_;refine Jq9 (ds:=dF p') l.pot rfl rfl rfl hpt.1 hdg rfl ?_;have hsum:Std (Bd (j'+1)) (JI (p'.getD l.pot.toNat Frm.none) (Jo l.f p') 1):=(Qs (sp' _ hm1) hin (n:=1) (N:=1) (by omega)).mono (by simp only[Bd];omega);refine Jrq (vs:=[.l (dF (p'.set l.pot.toNat (JI (p'.getD l.pot.toNat Frm.none) (Jo l.f p') 1))),.l (dF t'),.i (i+1)]) ?_
     ⟨act.length-(i+1).toNat,by omega,i+1,p'.set l.pot.toNat (JI (p'.getD l.pot.toNat Frm.none) (Jo l.f p') 1),t',j'+1,rfl,by omega,by omega,rfl,by omega,by omega,by omega,by simp[hp'],?_,by omega,st',?_⟩
    ·show [V.l ((dF p').set l.pot.toNat (JI (p'.getD l.pot.toNat Frm.none) (Jo l.f p') 1).g),V.l (dF t'),V.i (i64.wrap (i+1))]=_;rw[w64 (by omega) (by omega)];simp[dF,List.map_set]
    ·intro f hf;rcases Jr3 hf with hf | hf
     ·exact(sp' f hf).mono (Z1 (by omega))
     ·subst hf;exact hsum
    ·rw[←hw,hdr,hs1];conv=>rhs;rw[walk];rw[if_neg h4,if_neg h1,if_pos h2]
   ·refine Jrt (args:=[.s (dF t')]) rfl rfl (X1 (by omega) st' (by omega) (by omega)) rfl ?_;refine Jrn (dF t'++[(Jo l.f p').g]) rfl (by rw[QM,JS,JrK,List.length_singleton];omega) ?_;refine Jrq (vs:=[.l (dF p'),.l (dF (t'++[Jo l.f p'])),.i (i+1)]) ?_
     ⟨act.length-(i+1).toNat,by omega,i+1,p',t'++[Jo l.f p'],j'+1,rfl,by omega,by omega,rfl,by omega,by omega,by omega,hp',fun f hf=>(sp' f hf).mono (Z1 (by omega)),by simp;omega,KB st' hin7,?_⟩
    ·show [V.l (dF p'),V.l (dF t'++[(Jo l.f p').g]),V.i (i64.wrap (i+1))]=_;rw[QM,w64 (by omega) (by omega)]
    ·rw[←hw,hdr,hs1];conv=>rhs;rw[walk];rw[if_neg h4,if_neg h1,if_neg h2]
  ·rw[JU] at hi;refine Jrg ?_;refine Jrt (args:=[.s (dF p'),.s (dF g),.s (dF t')]) rfl rfl (JmW (M:=10000000) hp' (fun f hf=>(sp' f hf).mono (by omega)) (by omega) sg (by omega) st' (by omega) (by omega)) rfl ?_;refine JqZ ?_;show [D.s [(YL p' g t').g]]=_;rw[←hw,List.drop_eq_nil_of_le (by omega),walk];rfl
theorem Jk2 (act:List Jc) (hf:Ym act):Ev L f_k1a [.s (Ji act)] [.s (JV (Jz act))]:=by
 refine JrA (vs:=[.l (Ji act)]) L_k1a rfl ?_;refine Jrt (args:=[.s (Ji act)]) rfl rfl (JcN act hf) rfl ?_;refine Jrx (Qh act=false) ?_ (fun h=>JqZ ?_) (fun h=>?_)
 ·show (!(Qh act))=_;cases Qh act <;> rfl
 ·show [D.s []]=_;simp[Jz,h,JV]
 have h:Qh act=true:=by simpa using h
 refine Jrt (args:=[dI 0]) rfl rfl (KK 0 (by omega) (by omega)) rfl ?_;refine Jrt (args:=[dI 1]) rfl rfl (KK 1 (by omega) (by omega)) rfl ?_;refine Jrt (args:=[dI 2]) rfl rfl (KK 2 (by omega) (by omega)) rfl ?_;have e:=JlX (JdC h) act.length 0 [JA 0,JA 1,JA 2] [] [] 0 (by omega) (by omega) (by simp) (by omega) (by omega) rfl (by
  intro f hf';simp at hf';rcases hf' with rfl | rfl | rfl <;> exact QW) (by simp) (by simp) (by simp) (by simp)
 refine Jrt (args:=[.s (Ji act),dI 0,.s (dF [JA 0,JA 1,JA 2]),.s (dF []),.s (dF [])]) rfl rfl e rfl ?_;refine JqZ ?_;show [D.s (JV (walk (act.drop (0:Int).toNat) [JA 0,JA 1,JA 2] [] []))]=_;simp[Jz,h]
/- What the reference's parts,pins,and draws of them come to. -/
def Xb (as:List (List Jc)):Prop:=as.length≤2000000∧∀a∈as,Ym a
theorem Jm9.fit {as:List (List Jc)} (h:Jm9 as):Xb as:=⟨by have:=h.1;omega,fun a ha=>(h.2 a ha).fit⟩
theorem JnW (as:List (List Jc)) (hf:Xb as):Ev L f_kx [.s (Jf as)] [dB (QK as)]:=by
 have hl:=hf.1;refine JrA (vs:=[.l (Jf as)]) L_kx rfl ?_;refine Jrw (Qn as.length 1 4) rfl ?_ rfl ?_
 ·show [dI ((Jf as).length:Int),dI 1,dI 4]=_;rw[QO]
 refine Jrm (inB as.length 1 4) rfl (fun h=>JqZ ?_) (fun h=>?_)
 ·show [dB false]=_;simp[QK,h]
 refine Jq0 as.length (fun i=>[.i i]) (fun i=>(as.take i).all Qh=true) rfl rfl (by simp) fun i hi hp=>?_;refine Jru i (QO as) rfl (fun h'=>?_) (fun h'=>?_)
 ·obtain⟨x,hx,hm⟩:=sA1 h';refine Jrd i (mA1 (f:=fun a=> .s (Ji a)) hx) rfl rfl rfl rfl ?_;refine Jrw (JcN x (hf.2 x hm)) rfl rfl rfl ?_;refine Jrm (Qh x) rfl (fun hb=>Jrg (JqZ ?_)) (fun hb=>?_)
  ·show [dB false]=_;simp[QK,Za hx hb]
  ·refine Jrq (vs:=[.i ((i+1:Nat):Int)]) ?_ ⟨h',rfl,Q2 hx hp hb⟩;show [V.i (i64.wrap ((i:Int)+1))]=_;rw[wS h' (by omega)]
 ·refine Jrg (JqZ ?_);rw[tA1 h'] at hp;show [dB true]=_;simp only[QK,h,hp];simp
theorem JiP (f:Frm) (hl:Lim 1000000000 f.c) (hn:f.c.length≤2000000):Ev L f_k1c f.cells [.s (dL (Jn f.c))]:=by
 refine JrA (vs:=[.l (dL f.c),.l (dL f.d),.i f.k]) L_k1c rfl ?_;refine Jq0 f.c.length (fun i=>[.l (dL (Jn (f.c.take i))),.i (YA (f.c.take i)),.i i]) (fun _=>True) rfl rfl trivial fun i hi _=>?_;refine Jru i (dL1 f.c) rfl (fun h=>?_) (fun h=>?_)
 ·obtain⟨x,hx,hm⟩:=sA1 h;have hd:=mA1 (f:=dI) hx;have hxl:=hl x hm;have hs:=Jhj (f.c.take i) x;have hps:=Jmm (f.c.take i) x;rw[←tS1 hx] at hs hps;have hlen:(Jn (f.c.take i)).length≤i:=by rw[Jan];simp;omega
  have hin:=Jgb (f.c.take i);have fin :∀(s:Int) (l:List V),s=YA (f.c.take (i+1))→[V.l (dL (Jn (f.c.take i))++[dI (i64.wrap (s*x))]),V.i s,V.i (i64.wrap ((i:Int)+1))]=[V.l (dL (Jn (f.c.take (i+1)))),.i (YA (f.c.take (i+1))),.i ((i+1:Nat):Int)]:=by
   intro s _ e;subst e;rw[wS h (by omega),hps,w64,Jb9]
   ·rcases Jgb (f.c.take (i+1)) with e | e | e <;> rw[e] <;> omega
   ·rcases Jgb (f.c.take (i+1)) with e | e | e <;> rw[e] <;> omega
  generalize hS:YA (f.c.take i)=S at *;refine Jrx (S=0) rfl (fun h0=>?_) (fun h0=>?_)
  ·subst h0;simp only[if_true] at hs;refine Jrd i hd rfl rfl rfl rfl ?_;refine Jrx (0<x) rfl (fun h1=>?_) (fun h1=>?_)
   ·refine Jrd i hd rfl rfl rfl rfl ?_;refine Jrk (dL (Jn (f.c.take i))) 2000000 (by rw[dL1];omega) (by omega) rfl ?_;rw[if_pos h1] at hs;exact Jrq (fin 1 [] hs.symm) ⟨h,rfl,trivial⟩
   ·refine Jrx ((0:Int)=0) rfl (fun _=>?_) (fun h=>absurd rfl h);refine Jrd i hd rfl rfl rfl rfl ?_;refine Jrx (x<0) rfl (fun h2=>?_) (fun h2=>?_)
    ·refine Jrd i hd rfl rfl rfl rfl ?_;refine Jrk (dL (Jn (f.c.take i))) 2000000 (by rw[dL1];omega) (by omega) rfl ?_;rw[if_neg h1,if_pos h2] at hs;exact Jrq (fin (-1) [] hs.symm) ⟨h,rfl,trivial⟩
    ·refine Jrd i hd rfl rfl rfl rfl ?_;refine Jrk (dL (Jn (f.c.take i))) 2000000 (by rw[dL1];omega) (by omega) rfl ?_;rw[if_neg h1,if_neg h2] at hs;exact Jrq (fin 0 [] hs.symm) ⟨h,rfl,trivial⟩
  ·rw[if_neg h0] at hs;refine Jrx (S=0) rfl (fun h=>absurd h h0) (fun _=>?_);refine Jrd i hd rfl rfl rfl rfl ?_;refine Jrk (dL (Jn (f.c.take i))) 2000000 (by rw[dL1];omega) (by omega) rfl ?_;exact Jrq (fin S [] hs.symm) ⟨h,rfl,trivial⟩
 ·refine Jrg (JqZ ?_);show [D.s (dL (Jn (f.c.take i)))]=_;rw[tA1 h]
def Jqr (cmp : E) (sh : Sh) : R :=
  .ite (.not (.cmp .eq (.len (.v 0)) (.len (.v 1))))
   (
    .done [(.vb .ff)])
   (
    .loop 2 [(.z 0)] <|
      .ite (.cmp .lt (.v 2) (.len (.v 0)))
       (
        .i (.idx (.v 0) (.v 2) sh 3) <|
        .i (.idx (.v 1) (.v 2) sh 4) <|
        .ite (.not cmp)
         (
          .esc <|
          .done [(.vb .ff)])
         (
          .next [(.bin .add .i64 (.v 2) (.z 1))]))
       (
        .esc <|
        .done [(.vb .tt)]))
theorem JfC {α:Type} [DecidableEq α] {f:FuncId} {H:Ye} {s:Sig} {cmp:E} {sh:Sh} (enc:α→D) (vOf:α→V) (a b:List α) (hf:L.lookup f=some ⟨s,.r H (Jqr cmp sh)⟩) (hs:ZW s=[.s,.s])
  (hb :∀x,ZE sh (enc x)=some [vOf x]) (hc :∀(v0 v1 v2:V) (x y:α),bol (Js [v0,v1,v2,vOf x,vOf y]) cmp=decide (x=y)) (hl:a.length≤2000000) :
  Ev L f [.s (a.map enc),.s (b.map enc)] [dB (decide (a=b))]:=by
 refine JrA (vs:=[.l (a.map enc),.l (b.map enc)]) hf (by rw[hs];rfl) ?_;refine Jrx (¬a.length=b.length) ?_ (fun h=>JqZ ?_) (fun h=>?_)
 ·show (!(decide (((a.map enc).length:Int)=((b.map enc).length:Int))))=_;rw[JrN,JrN]
  by_cases h:a.length=b.length
  ·simp[h]
  ·simp[h,show ¬(a.length:Int)=b.length by omega]
 ·show [dB false]=_;rw[decide_eq_false];intro e;exact h (by rw[e])
 have h:a.length=b.length:=Classical.not_not.1 h;refine Jq0 a.length (fun i=>[.i i]) (fun i=>a.take i=b.take i) rfl rfl rfl fun i hi hp=>?_;refine Jru i (JrN (f:=enc) (as:=a)) rfl (fun h'=>?_) (fun h'=>?_)
 ·obtain⟨x,hx,_⟩:=sA1 h';obtain⟨y,hy,_⟩:=sA1 (show i<b.length by omega);refine Jrd i (mA1 (f:=enc) hx) rfl rfl rfl (hb x) ?_;refine Jrd i (mA1 (f:=enc) hy) rfl rfl rfl (hb y) ?_;refine Jrm (decide (x=y)) ?_ (fun hxy=>Jrg (JqZ ?_)) (fun hxy=>?_)
  ·show (!(bol (Js [V.l (a.map enc),.l (b.map enc),.i i,vOf x,vOf y]) cmp))=_;rw[hc]
  ·show [dB false]=_;rw[decide_eq_false];intro e;subst e;rw[hx] at hy;simp only[JrD] at hy;simp[hy] at hxy
  ·have hxy:x=y:=by simpa using hxy
   subst hxy;refine Jrq (vs:=[.i ((i+1:Nat):Int)]) ?_ ⟨h',rfl,by show a.take (i+1)=b.take (i+1);rw[tS1 hx,tS1 hy,hp]⟩;show [V.i (i64.wrap ((i:Int)+1))]=_;rw[wS h' (by omega)]
 ·refine Jrg (JqZ ?_);rw[tA1 h',tA1 (by omega)] at hp;subst hp;show [dB true]=_;simp
theorem JeC (a b:List Int) (hl:a.length≤2000000):Ev L f_k1d [.s (dL a),.s (dL b)] [dB (decide (a=b))] :=
 JfC dI .i a b L_k1d rfl (fun _=>rfl) (fun _ _ _ _ _=>rfl) hl
theorem JkU (l:List (List Int)) (p:List Int) (hl:l.length≤2000000) (hq :∀q∈l,q.length≤2000000):Ev L f_k1e [.s (dLL l),.s (dL p)] [dI (Up l p)]:=by
 refine JrA (vs:=[.l (dLL l),.l (dL p)]) L_k1e rfl ?_;refine Jq0 l.length (fun i=>[.i i]) (fun i=>(l.take i).any (fun q=>decide (q=p))=false) rfl rfl (by simp) fun i hi hn=>?_;refine Jru i (K7 l) rfl (fun h=>?_) (fun h=>?_)
 ·obtain⟨x,hx,hm⟩:=sA1 h;refine Jrd i (mA1 (f:=fun x=> .s (dL x)) hx) rfl rfl rfl rfl ?_;refine Jrw (JeC x p (hq x hm)) rfl rfl rfl ?_;refine Jq5 (decide (x=p)) rfl (fun hp=>Jrg (JqZ ?_)) (fun hp=>?_)
  ·show [dI i]=_;rw[Up,JdQ hx hp hn]
  ·refine Jrq (vs:=[.i ((i+1:Nat):Int)]) ?_ ⟨h,rfl,Jhg hx hn hp⟩;show [V.i (i64.wrap ((i:Int)+1))]=_;rw[wS h (by omega)]
 ·refine Jrg (JqZ ?_);rw[tA1 h] at hn;show [dI (-1)]=_;rw[Up,Jdh hn]
theorem Jo4 (p:List Bool):XZ 1 (dBl p)=true:=by cases p <;> rfl
theorem Jdg (p:List Bool) (fs:List Frm) (hp:p.length=3) (hc :∀f∈fs,f.c.length=3) (hl:fs.length≤2000000):Ev L f_k1b [.s (dBl p),.s (dF fs)] [.s (dBl (Qp p fs))]:=by
 refine JrA (vs:=[.l (dBl p),.l (dF fs)]) L_k1b rfl ?_;refine Jre (dBl p) 3 (by rw[JgN];omega) (by omega) rfl ?_;refine Jro (Jo4 p) ?_;refine Jre (dBl p) 3 (by rw[JgN];omega) (by omega) rfl ?_;refine Jq0 fs.length (fun i=>[.l (dBl (Qp p (fs.take i))),.i i]) (fun _=>True) rfl rfl trivial fun i hi _=>?_;refine Jru i (JS fs) rfl (fun h=>?_) (fun h=>?_)
 ·obtain⟨x,hx,hm⟩:=sA1 h;have hx3:=hc x hm;have hP:(Qp p (fs.take i)).length=3:=ZA hp fun f hf=>hc f (Jr2 hf);have hS:Qp p (fs.take (i+1))=KV (Qp p (fs.take i)) x.c:=QR hx;generalize Qp p (fs.take i)=P at *;have hO:(KV P x.c).length=3:=by rw[W7];omega
  refine Jq0 3 (fun v=>[.l (dBl ((KV P x.c).take v++P.drop v)),.i v]) (fun _=>True) rfl rfl trivial fun v hv _=>?_;refine Jrh v 3 rfl (fun hv3=>?_) (fun hv3=>?_)
  ·obtain⟨n,hn,_⟩:=sA1 (show v<x.c.length by omega);obtain⟨b,hb,_⟩:=sA1 (show v<P.length by omega);have ho:(KV P x.c)[v]? = some (b||decide (n≠0)):=by simp[KV,List.getElem?_zipWith,hn,hb]
   refine Jrd i (mA1 (f:=Frm.g) hx) rfl rfl rfl rfl ?_;refine Jrd v (mA1 (f:=dI) hn) rfl rfl rfl rfl ?_;have hlen:((KV P x.c).take v++P.drop v).length=3:=by simp;omega
   refine Jrm (decide (n=0)) rfl (fun h0=>?_) (fun h0=>?_)
   ·obtain⟨b',hb',_⟩:=sA1 (show v<((KV P x.c).take v++P.drop v).length by omega);refine Jrc v (mA1 (f:=dB) hb') rfl rfl rfl rfl rfl rfl ?_;have h0:n≠0:=by simpa using h0
    have ho:(KV P x.c)[v]? = some true:=by rw[ho];simp[h0]
    refine Jrq (vs:=[.l (dBl ((KV P x.c).take (v+1)++P.drop (v+1))),.i ((v+1:Nat):Int)]) ?_ ⟨hv3,rfl,trivial⟩;show [V.l ((dBl ((KV P x.c).take v++P.drop v)).set (v:Int).toNat (dB true)),V.i (i64.wrap ((v:Int)+1))]=_;rw[wS hv3 (by omega),Jkk,Int.toNat_natCast,JmM (by omega) ho]
   ·have h0:n=0:=by simpa using h0
    refine Jrq (vs:=[.l (dBl ((KV P x.c).take (v+1)++P.drop (v+1))),.i ((v+1:Nat):Int)]) ?_ ⟨hv3,rfl,trivial⟩;show [V.l (dBl ((KV P x.c).take v++P.drop v)),V.i (i64.wrap ((v:Int)+1))]=_;rw[wS hv3 (by omega),JlG (s:=b) (by rw[ho];simp[h0]) hb]
  ·have:v=3:=by omega
   subst this;rw[JrI (by omega),List.drop_eq_nil_of_le (by omega),List.append_nil];refine Jrg ?_;refine Jrq (vs:=[.l (dBl (Qp p (fs.take (i+1)))),.i ((i+1:Nat):Int)]) ?_ ⟨h,rfl,trivial⟩;show [V.l (dBl (KV P x.c)),V.i (i64.wrap ((i:Int)+1))]=_;rw[wS h (by omega),hS]
 ·refine Jrg (JqZ ?_);show [D.s (dBl (Qp p (fs.take i)))]=_;rw[tA1 h]
end Go.Proofs.YtgpjnnkmmplicabGreatDoor
