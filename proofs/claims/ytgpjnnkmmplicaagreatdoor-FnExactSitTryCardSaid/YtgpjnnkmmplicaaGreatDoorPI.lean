import Derived.Test.YtgpjnnkmmplicaaGreatDoorR
import Derived.Test.YtgpjnnkmmplicaaGreatDoorTd
set_option linter.unusedVariables false
set_option linter.unusedSimpArgs false
/- What the draws come to: a reader's picks,and what is drawn by them. -/
namespace Go.Proofs.YtgpjnnkmmplicaaGreatDoor
open Go Go.Tm
open Go.IntKind (i64)
/- What draws of numbers come to. -/
end Go.Proofs.YtgpjnnkmmplicaaGreatDoor
/- What draws of treaties,of what sites have added,of forms and lines come to. -/
namespace Go.Proofs.YtgpjnnkmmplicaaGreatDoor
open Go Go.Tm
open Go.IntKind (i64)
/- What says whether forms,lines,acts are ok. -/
theorem Qg (n a b:Int):Ev L f_km [dI n,dI a,dI b] [dB (inB n a b)]:=by
 refine Jq7 (vs:=[.i n,.i a,.i b]) L_km rfl ?_;refine JqL (a≤n) rfl (fun h=>JqK ?_) (fun h=>JqK ?_)
 ·show [dB (decide (n≤b))]=_;simp[inB,h]
 ·show [dB false]=_;simp[inB,h]
theorem Q4 (l:List Int) (n m:Int) (hl:l.length≤2000000) (h0:0≤m) (hm:m≤10000000000000):Ev L f_kn [.s (dL l),dI n,dI m] [dB (JE n m l)]:=by
 refine Jq7 (vs:=[.l (dL l),.i n,.i m]) L_kn rfl ?_;have c0:bol (Jp [V.l (dL l),V.i n,V.i m]) (.not (.cmp .eq (.len (.v 0)) (.v 1)))=decide (¬(l.length:Int)=n):=by
  simp[bol,den,V.bool,V.int,V.lst,CO.sem,Jp,dL1]
 refine JqL (¬(l.length:Int)=n) c0 (fun h=>JqK ?_) (fun h=>?_)
 ·show [dB false]=_;simp[JE,h]
 have h:(l.length:Int)=n:=by omega
 refine JqU (fun k vs=>∃ i:Int,vs=[.i i]∧0≤i∧i≤l.length∧(k:Int)=l.length-i∧(l.take i.toNat).all (fun x=>inB x (0-m) m)=true) rfl l.length ⟨0,rfl,by omega,by omega,by omega,by simp⟩ ?_;rintro k _ ⟨i,rfl,i0,i1,hk,ha⟩;refine JqL (i<((dL l).length:Int)) rfl (fun hi=>?_) (fun hi=>?_)
 ·rw[dL1] at hi;refine JqO (ds:=dL l) i rfl rfl rfl i0 (ZW i0 hi) rfl ?_;have hx:l[i.toNat]? = some (l.getD i.toNat 0):=by simp[Jrc,show i.toNat<l.length by omega]
  generalize l.getD i.toNat 0=x at *;refine JqP (args:=[dI x,dI (0-m),dI m]) rfl ?_ (Qg x (0-m) m) rfl ?_
  ·show [dI x,dI (i64.wrap (0-m)),dI m]=_;rw[w64 (by omega) (by omega)]
  refine JqL (inB x (0-m) m=false) ?_ (fun hb=>?_) (fun hb=>?_)
  ·show (!(inB x (0-m) m))=_;cases inB x (0-m) m <;> rfl
  ·refine JqG (JqK ?_);show [dB false]=_;have hna:l.all (fun x=>inB x (0-m) m)=false:=XK (p:=fun x=>inB x (0-m) m) hx hb;simp only[JE,hna];simp
  ·refine JqI (vs:=[.i (i+1)]) ?_ ⟨k-1,by omega,i+1,rfl,by omega,by omega,by omega,?_⟩
   ·show [V.i (i64.wrap (i+1))]=_;rw[w64 (by omega) (by omega)]
   ·rw[show (i+1).toNat=i.toNat+1 by omega];exact Qr hx ha (by simpa using hb)
 ·rw[dL1] at hi;refine JqG (JqK ?_);show [dB true]=_;rw[Jrd (by omega)] at ha;simp only[JE,h,ha];simp
def Frm.fit (f:Frm):Prop:=f.c.length≤2000000∧f.d.length≤2000000
theorem VZ (f:Frm) (hf:Frm.fit f):Ev L f_ko f.cells [dB f.small]:=by
 refine Jq7 (vs:=[.l (dL f.c),.l (dL f.d),.i f.k]) L_ko rfl ?_;refine JqP (args:=[.s (dL f.c),dI 3,dI 2]) rfl rfl (Q4 f.c 3 2 hf.1 (by omega) (by omega)) rfl ?_;refine JqZ (JE 3 2 f.c) rfl (fun h=>?_) (fun h=>JqK ?_)
 ·refine JqP (args:=[.s (dL f.d),dI 2,dI 2]) rfl rfl (Q4 f.d 2 2 hf.2 (by omega) (by omega)) rfl ?_;refine JqZ (JE 2 2 f.d) rfl (fun h2=>?_) (fun h2=>JqK ?_)
  ·refine JqP (args:=[dI f.k,dI (-20),dI 20]) rfl rfl (Qg _ _ _) rfl ?_;refine JqK ?_;show [dB (inB f.k (-20) 20)]=_;simp[Frm.small,h,h2]
  ·show [dB false]=_;simp[Frm.small,h,h2]
 ·show [dB false]=_;simp[Frm.small,h]
theorem Jia (f:Frm) (hf:Frm.fit f):Ev L f_kz f.cells [dB f.ok]:=by
 refine Jq7 (vs:=[.l (dL f.c),.l (dL f.d),.i f.k]) L_kz rfl ?_;refine JqP (args:=[.s (dL f.c),dI 3,dI 10000000]) rfl rfl (Q4 f.c 3 10000000 hf.1 (by omega) (by omega)) rfl ?_;refine JqZ (JE 3 10000000 f.c) rfl (fun h=>?_) (fun h=>JqK ?_)
 ·refine JqP (args:=[.s (dL f.d),dI 2,dI 10000000]) rfl rfl (Q4 f.d 2 10000000 hf.2 (by omega) (by omega)) rfl ?_;refine JqZ (JE 2 10000000 f.d) rfl (fun h2=>?_) (fun h2=>JqK ?_)
  ·refine JqP (args:=[dI f.k,dI (-10000000),dI 10000000]) rfl rfl (Qg _ _ _) rfl ?_;refine JqK ?_;show [dB (inB f.k (-10000000) 10000000)]=_;simp[Frm.ok,h,h2]
  ·show [dB false]=_;simp[Frm.ok,h,h2]
 ·show [dB false]=_;simp[Frm.ok,h]
theorem JkD (l:Jd) (hf:Frm.fit l.f):Ev L f_kp l.cells [dB l.ok]:=by
 refine Jq7 (vs:=[.i l.kind,.i l.pot,.i l.skip,.l (dL l.f.c),.l (dL l.f.d),.i l.f.k]) L_kp rfl ?_;refine JqL (l.kind=1) rfl (fun h1=>?_) (fun h1=>?_)
 ·refine JqL (l.pot=0) rfl (fun h2=>?_) (fun h2=>JqK ?_)
  ·refine JqP (args:=[dI l.skip,dI 1,dI 6]) rfl rfl (Qg _ _ _) rfl ?_;refine JqZ (inB l.skip 1 6) rfl (fun h3=>?_) (fun h3=>JqK ?_)
   ·refine JqP (args:=l.f.cells) rfl rfl (VZ l.f hf) rfl (JqK ?_);show [dB l.f.small]=_;simp[Jd.ok,h1,h2,h3]
   ·show [dB false]=_;simp[Jd.ok,h1,h2,h3]
  ·show [dB false]=_;simp[Jd.ok,h1,h2]
 refine JqL (l.kind=2) rfl (fun h2=>?_) (fun h2=>?_)
 ·refine JqP (args:=[dI l.pot,dI 0,dI 2]) rfl rfl (Qg _ _ _) rfl ?_;refine JqZ (inB l.pot 0 2) rfl (fun h3=>?_) (fun h3=>JqK ?_)
  ·refine JqL (l.skip=0) rfl (fun h4=>?_) (fun h4=>JqK ?_)
   ·refine JqP (args:=l.f.cells) rfl rfl (VZ l.f hf) rfl (JqK ?_);show [dB l.f.small]=_;simp[Jd.ok,h2,h3,h4]
   ·show [dB false]=_;simp[Jd.ok,h2,h3,h4]
  ·show [dB false]=_;simp[Jd.ok,h2,h3]
 refine JqL (l.kind=3) rfl (fun h3=>?_) (fun h3=>?_)
 ·refine JqL (l.pot=0) rfl (fun h4=>?_) (fun h4=>JqK ?_)
  ·refine JqL (l.skip=0) rfl (fun h5=>?_) (fun h5=>JqK ?_)
   ·refine JqP (args:=l.f.cells) rfl rfl (VZ l.f hf) rfl (JqK ?_);show [dB l.f.small]=_;simp[Jd.ok,h3,h4,h5]
   ·show [dB false]=_;simp[Jd.ok,h3,h4,h5]
  ·show [dB false]=_;simp[Jd.ok,h3,h4]
 refine JqL (l.kind=4) rfl (fun h4=>?_) (fun h4=>JqK ?_)
 ·refine JqL (l.pot=0) rfl (fun h5=>?_) (fun h5=>JqK ?_)
  ·refine JqL (l.skip=0) rfl (fun h6=>?_) (fun h6=>JqK ?_)
   ·have hw:i64.wrap (((dL l.f.c).length:Int)+(dL l.f.d).length)=l.f.c.length+l.f.d.length:=by
     rw[dL1,dL1];have:=hf.1;have:=hf.2;exact w64 (by omega) (by omega)
    refine JqL (((l.f.c.length:Int)+l.f.d.length)=0) ?_ (fun h7=>JqK ?_) (fun h7=>JqK ?_)
    ·show decide (i64.wrap (((dL l.f.c).length:Int)+(dL l.f.d).length)=0)=_;rw[hw]
    ·show [dB (decide (l.f.k=0))]=_;simp only[Jd.ok,h4,h5,h6,h7];simp
    ·show [dB false]=_;simp only[Jd.ok,h4,h5,h6,h7];simp
   ·show [dB false]=_;simp[Jd.ok,h4,h5,h6]
  ·show [dB false]=_;simp[Jd.ok,h4,h5]
 ·show [dB false]=_;simp[Jd.ok,h1,h2,h3,h4]
def YS (a:List Jd):Prop:=a.length≤2000000∧∀l∈a,Frm.fit l.f
theorem Jc1 {a:List Jd} {i:Int} (h0:0≤i) (h1:i<a.length) : ∃ x,a[i.toNat]? = some x∧(Jn a)[i.toNat]? = some x.g:=JjA h0 h1
theorem Jgo (a:List Jd) (ha:YS a):Ev L f_kq [.s (Jn a)] [dB (QI a)]:=by
 have hlen:=ha.1;refine Jq7 (vs:=[.l (Jn a)]) L_kq rfl ?_;refine JqU (fun k vs=>∃ i:Int,vs=[.i (XF (a.take i.toNat)),.i i]∧0≤i∧i≤a.length∧(k:Int)=a.length-i∧(a.take i.toNat).all Jd.ok=true) rfl a.length ⟨0,rfl,by omega,by omega,by omega,by simp⟩ ?_;rintro k _ ⟨i,rfl,i0,i1,hk,hal⟩;have htl:XF (a.take i.toNat)≤a.length:=Nat.le_trans List.countP_le_length (by simp;omega);refine JqL (i<((Jn a).length:Int)) rfl (fun hi=>?_) (fun hi=>?_)
 ·rw[Qt] at hi;obtain⟨x,hx,hd⟩:=Jc1 i0 hi;have hfx:=ha.2 x (Jrg hx);refine JqO (ds:=Jn a) i rfl rfl rfl i0 hd rfl ?_;refine JqP (args:=x.cells) rfl rfl (JkD x hfx) rfl ?_;refine JqL (x.ok=false) ?_ (fun hb=>?_) (fun hb=>?_)
  ·show (!x.ok)=_;cases x.ok <;> rfl
  ·refine JqG (JqK ?_);show [dB false]=_;simp[QI,XK hx hb]
  ·have hb:x.ok=true:=by simpa using hb
   refine JqO (ds:=Jn a) i rfl rfl rfl i0 hd rfl ?_;have ht:XF (a.take (i+1).toNat)=XF (a.take i.toNat)+if x.kind=1 then 1 else 0:=by
    rw[show (i+1).toNat=i.toNat+1 by omega,tS1 hx];simp[XF,List.countP_append,List.countP_cons]
   have hal':(a.take (i+1).toNat).all Jd.ok=true:=by
    rw[show (i+1).toNat=i.toNat+1 by omega];exact Qr hx hal hb
   refine JqL (x.kind=1) rfl (fun h1=>?_) (fun h1=>?_)
   ·refine JqI (vs:=[.i (XF (a.take (i+1).toNat)),.i (i+1)]) ?_ ⟨k-1,by omega,i+1,rfl,by omega,by omega,by omega,hal'⟩;show [V.i (i64.wrap ((XF (a.take i.toNat):Int)+1)),V.i (i64.wrap (i+1))]=_;rw[w64 (n:=i+1) (by omega) (by omega),w64 (by omega) (by omega),ht,if_pos h1];rfl
   ·refine JqI (vs:=[.i (XF (a.take (i+1).toNat)),.i (i+1)]) ?_ ⟨k-1,by omega,i+1,rfl,by omega,by omega,by omega,hal'⟩;show [V.i (XF (a.take i.toNat):Int),V.i (i64.wrap (i+1))]=_;rw[w64 (n:=i+1) (by omega) (by omega),ht,if_neg h1];rfl
 ·rw[Qt] at hi;rw[Jrd (by omega)] at hal htl ⊢;refine JqG ?_;refine JqL (((Jn a).length:Int)≤6) rfl (fun h6=>JqK ?_) (fun h6=>JqK ?_)
  ·rw[Qt] at h6;show [dB (decide ((XF a:Int)≤3))]=_;simp only[QI,hal,h6];simp
  ·rw[Qt] at h6;show [dB false]=_;simp only[QI,h6];simp
/- What draws of forms,lines,acts come to. -/
theorem Yr:Ev L f_kv [] Frm.zero.cells:=Jq7 (vs:=[]) L_kv rfl (JqK rfl)
def slim (l:Jd):Prop:=l.f.c.length≤3∧l.f.d.length≤2
/- What draws of acts come to. -/
def Jmk (a:List Jd):Prop:=a.length≤5∧(∀l∈a,slim l)∧QI a=true
theorem Jmk.fit {a:List Jd} (h:Jmk a):YS a:=⟨by have:=h.1;omega,fun l hl=>⟨by have:=(h.2.1 l hl).1;omega,by have:=(h.2.1 l hl).2;omega⟩⟩
def Jnm (as:List (List Jd)):Prop:=as.length≤4∧∀a∈as,Jmk a
/- What sums of forms and the ways through an act come to: the reference's. -/
theorem Vi {x y n M N:Int} (hx : -M≤x∧x≤M) (hy : -M≤y∧y≤M) (hn : -N≤n∧n≤N) (hM:M≤1000000000) (hN:N≤1000000000):i64.wrap (x+i64.wrap (n*y))=x+n*y:=by
 have h:=ZM (A:=1000000000) (B:=1000000000) (n:=n) (y:=y) (by omega) (by omega);rw[w64 (n:=n*y) (by omega) (by omega),w64 (by omega) (by omega)]
theorem Ui {a b:Frm} {n M:Int} (ha:Std M a) (hb:Std M b) (hM:M≤1000000000) (hn : -1000000000≤n∧n≤1000000000) :
  Ev L f_kx (a.cells++b.cells++[dI n]) (JJ a b n).cells:=by
 refine Jq7 (vs:=[.l (dL a.c),.l (dL a.d),.i a.k,.l (dL b.c),.l (dL b.d),.i b.k,.i n]) L_kx rfl ?_;refine JqP (args:=[]) rfl rfl Yr rfl ?_;have hc:=ha.c;have hc':=hb.c;have hd:=ha.d;have hd':=hb.d;have hS:(JM a.c b.c n).length=3:=by rw[UI];omega
 have hT:(JM a.d b.d n).length=2:=by rw[UI];omega
 refine JqU (fun m vs=>∃ i:Nat,i≤3∧m=3-i∧vs=[.l (dL ((JM a.c b.c n).take i++([0,0,0]:List Int).drop i)),.i i]) rfl 3 ⟨0,by omega,rfl,rfl⟩ ?_;rintro m _ ⟨i,hi,hm,rfl⟩;refine JqL ((i:Int)<3) rfl (fun h=>?_) (fun h=>?_)
 ·refine JqO (ds:=dL a.c) i rfl rfl rfl (by omega) (ZW (by omega) (by omega)) rfl ?_;refine JqO (ds:=dL b.c) i rfl rfl rfl (by omega) (ZW (by omega) (by omega)) rfl ?_;refine JqF ((0:Int)≤i) rfl (by omega) ?_;have hlen:((JM a.c b.c n).take i++([0,0,0]:List Int).drop i).length=3:=by simp[hS];omega
  refine JqF ((i:Int)<((dL ((JM a.c b.c n).take i++([0,0,0]:List Int).drop i)).length:Int)) rfl (by rw[dL1,hlen];omega) ?_;refine JqO (ds:=dL ((JM a.c b.c n).take i++([0,0,0]:List Int).drop i)) i rfl rfl rfl (by omega) (ZW (by omega) (by omega)) rfl ?_;refine JqI (vs:=[.l (dL ((JM a.c b.c n).take (i+1)++([0,0,0]:List Int).drop (i+1))),.i ((i+1:Nat):Int)]) ?_ ⟨m-1,by omega,i+1,by omega,by omega,rfl⟩;show [V.l ((dL ((JM a.c b.c n).take i++([0,0,0]:List Int).drop i)).set (i:Int).toNat (dI (i64.wrap (a.c.getD (i:Int).toNat 0+i64.wrap (n*b.c.getD (i:Int).toNat 0))))),V.i (i64.wrap ((i:Int)+1))]=_;have hx:=KB ha.lc (k:=(i:Int).toNat) (by omega);have hy:=KB hb.lc (k:=(i:Int).toNat) (by omega);rw[Vi hx hy hn hM (by omega),Uk,Int.toNat_natCast,fill (by rw[hS];rfl),w64 (by omega) (by omega)]
  ·rfl
  ·exact Jib (by omega) (by omega)
 refine JqG ?_;have hi3:i=3:=by omega
 subst hi3;rw[Jrd (by omega),show ([0,0,0]:List Int).drop 3=[] from rfl,List.append_nil];refine JqU (fun m vs=>∃ i:Nat,i≤2∧m=2-i∧vs=[.l (dL ((JM a.d b.d n).take i++([0,0]:List Int).drop i)),.i i]) rfl 2 ⟨0,by omega,rfl,rfl⟩ ?_;rintro m _ ⟨i,hi,hm,rfl⟩;refine JqL ((i:Int)<2) rfl (fun h=>?_) (fun h=>?_)
 ·refine JqO (ds:=dL a.d) i rfl rfl rfl (by omega) (ZW (by omega) (by omega)) rfl ?_;refine JqO (ds:=dL b.d) i rfl rfl rfl (by omega) (ZW (by omega) (by omega)) rfl ?_;refine JqF ((0:Int)≤i) rfl (by omega) ?_;have hlen:((JM a.d b.d n).take i++([0,0]:List Int).drop i).length=2:=by simp[hT];omega
  refine JqF ((i:Int)<((dL ((JM a.d b.d n).take i++([0,0]:List Int).drop i)).length:Int)) rfl (by rw[dL1,hlen];omega) ?_;refine JqO (ds:=dL ((JM a.d b.d n).take i++([0,0]:List Int).drop i)) i rfl rfl rfl (by omega) (ZW (by omega) (by omega)) rfl ?_;refine JqI (vs:=[.l (dL ((JM a.d b.d n).take (i+1)++([0,0]:List Int).drop (i+1))),.i ((i+1:Nat):Int)]) ?_ ⟨m-1,by omega,i+1,by omega,by omega,rfl⟩;show [V.l ((dL ((JM a.d b.d n).take i++([0,0]:List Int).drop i)).set (i:Int).toNat (dI (i64.wrap (a.d.getD (i:Int).toNat 0+i64.wrap (n*b.d.getD (i:Int).toNat 0))))),V.i (i64.wrap ((i:Int)+1))]=_;have hx:=KB ha.ld (k:=(i:Int).toNat) (by omega);have hy:=KB hb.ld (k:=(i:Int).toNat) (by omega);rw[Vi hx hy hn hM (by omega),Uk,Int.toNat_natCast,fill (by rw[hT];rfl),w64 (by omega) (by omega)]
  ·rfl
  ·exact Jib (by omega) (by omega)
 refine JqG ?_;have hi2:i=2:=by omega
 subst hi2;rw[Jrd (by omega),show ([0,0]:List Int).drop 2=[] from rfl,List.append_nil];refine JqK ?_;show [D.s (dL (JM a.c b.c n)),.s (dL (JM a.d b.d n)),dI (i64.wrap (a.k+i64.wrap (n*b.k)))]=_;rw[Vi ha.k hb.k hn hM (by omega)];rfl
theorem Y9 (v:Int) (h0:0≤v) (h2:v≤2):Ev L f_kw [dI v] (Ju v.toNat).cells:=by
 refine Jq7 (vs:=[.i v]) L_kw rfl ?_;refine JqP (args:=[dI v,dI 0,dI 2]) rfl rfl (Qg v 0 2) rfl ?_;refine JqM (by show (!(inB v 0 2))=false;simp[inB,h0,h2]) ?_;refine JqP (args:=[]) rfl rfl Yr rfl ?_;refine JqF (0≤v) rfl h0 ?_;refine JqF (v<3) rfl (by omega) ?_;refine JqO (ds:=dL [0,0,0]) v rfl rfl rfl h0 (ZW h0 (by simp;omega)) rfl ?_;refine JqK ?_;show [D.s ((dL [0,0,0]).set v.toNat (dI 1)),.s (dL [0,0]),dI 0]=_;rw[Uk];rfl
theorem XU {l:List Frm} {M:Int} (hl:l.length≤2000000) (hs :∀f∈l,Std M f) (h0:0≤M) (hM:M≤1000000000):Ev L f_ky [.s (dF l)] [.s (dF l)]:=by
 refine Jq7 (vs:=[.l (dF l)]) L_ky rfl ?_;refine JqU (fun m vs=>∃ i:Int,0≤i∧i≤l.length∧(m:Int)=l.length-i∧vs=[.l (dF (l.take i.toNat)),.i i]) rfl l.length ⟨0,by omega,by omega,by omega,rfl⟩ ?_;rintro m _ ⟨i,i0,i1,hm,rfl⟩;refine JqL (i<((dF l).length:Int)) rfl (fun hi=>?_) (fun hi=>?_)
 ·rw[JL] at hi;refine JqP (args:=[]) rfl rfl Yr rfl ?_;obtain⟨x,hx,hd⟩:=Jau i0 hi;have hsx:=hs x (Jrg hx);refine JqO (ds:=dF l) i rfl rfl rfl i0 hd rfl ?_;have e:=Ui (Xg.mono h0) hsx hM (n:=1) (by omega);rw[Jd8 hsx] at e;refine JqP (args:=Frm.zero.cells++x.cells++[dI 1]) rfl rfl e rfl ?_;refine Jq1 (dF (l.take i.toNat)++[x.g]) rfl (by rw[QO,JL];simp;omega) ?_;refine JqI (vs:=[.l (dF (l.take (i+1).toNat)),.i (i+1)]) ?_ ⟨m-1,by omega,i+1,by omega,by omega,by omega,rfl⟩;show [V.l (dF (l.take i.toNat)++[x.g]),V.i (i64.wrap (i+1))]=_;rw[QO,show (i+1).toNat=i.toNat+1 by omega,tS1 hx,w64 (by omega) (by omega)]
 ·rw[JL] at hi;refine JqG (JqK ?_);show [D.s (dF (l.take i.toNat))]=_;rw[Jrd (by omega)]
theorem Jjr {f:Frm} {M:Int} (hf:Std M f) (h0:0≤M) (hM:M≤100000000):Ev L f_k11 f.cells (Qs f).cells:=by
 refine Jq7 (vs:=[.l (dL f.c),.l (dL f.d),.i f.k]) L_k11 rfl ?_;refine JqP (args:=[]) rfl rfl Yr rfl ?_;refine JqP (args:=Frm.zero.cells++f.cells++[dI (-1)]) rfl rfl (Ui (Xg.mono h0) hf (by omega) (by omega)) rfl ?_;refine JqK ?_;have hk:=(Qv Xg hf (n:=-1) (N:=1) (by omega)).k;show [D.s (dL (JJ Frm.zero f (-1)).c),.s (dL (JJ Frm.zero f (-1)).d),dI (i64.wrap ((JJ Frm.zero f (-1)).k-1))]=_;rw[w64 (by omega) (by omega)];rfl
theorem Jig {f:Frm} {pots:List Frm} {M:Int} (hf:f.small=true) (hl:pots.length=3) (hp :∀p∈pots,Std M p) (h0:0≤M) (hM:M≤1000000) :
  Ev L f_k10 (f.cells++[.s (dF pots)]) (Jo f pots).cells:=by
 obtain⟨f1,f2,f3,f4,f5⟩:=Xt hf;have hfs:=Jei hf;refine Jq7 (vs:=[.l (dL f.c),.l (dL f.d),.i f.k,.l (dF pots)]) L_k10 rfl ?_;have ok :∀g:Frm,Std (20+6*M) g→Ev L f_kz g.cells [dB true]:=fun g hg=>by
  have:=Jia g hg.fit
  rwa [hg.okF (by omega)] at this
 refine JqP (args:=f.cells) rfl rfl (ok f (hfs.mono (by omega))) rfl ?_;refine JqM rfl ?_;have c0:bol (Jp ([V.l (dL f.c),V.l (dL f.d),V.i f.k,V.l (dF pots)]++[V.b true])) (.not (.cmp .eq (.len (.v 3)) (.z 3)))=decide (¬(pots.length:Int)=3):=by
  simp[bol,den,V.bool,V.int,V.lst,CO.sem,Jp,JL]
 refine JqL (¬(pots.length:Int)=3) c0 (fun h=>by omega) (fun _=>?_);obtain⟨p0,h00,d0⟩:=Jau (l:=pots) (i:=0) (by omega) (by omega);obtain⟨p1,h11,d1⟩:=Jau (l:=pots) (i:=1) (by omega) (by omega);obtain⟨p2,h22,d2⟩:=Jau (l:=pots) (i:=2) (by omega) (by omega);refine JqO (ds:=dF pots) 0 rfl rfl rfl (by omega) d0 rfl ?_;refine JqP (args:=p0.cells) rfl rfl (ok p0 ((hp p0 (Jrg h00)).mono (by omega))) rfl ?_;refine JqM rfl ?_;refine JqO (ds:=dF pots) 1 rfl rfl rfl (by omega) d1 rfl ?_;refine JqP (args:=p1.cells) rfl rfl (ok p1 ((hp p1 (Jrg h11)).mono (by omega))) rfl ?_;refine JqM rfl ?_;refine JqO (ds:=dF pots) 2 rfl rfl rfl (by omega) d2 rfl ?_;refine JqP (args:=p2.cells) rfl rfl (ok p2 ((hp p2 (Jrg h22)).mono (by omega))) rfl ?_;refine JqM rfl ?_;refine Jq1 (dL f.d) rfl (by rw[dL1];omega) ?_;refine Jqx (by show XP 1 (dL f.d)=true;cases f.d <;> rfl) ?_;refine Jq1 (dL f.d) rfl (by rw[dL1];omega) ?_
 let acc:Nat→Frm:=fun i=>(List.zip (pots.take i) (f.c.take i)).foldl (fun x q=>JJ x q.1 q.2) ⟨[0,0,0],f.d,f.k⟩
 have hacc :∀i,i≤3→Std (20+6*M) (acc i):=fun i hi=>by
  rcases JcV hf hp h0 i hi with h | h
  ·refine h.mono ?_;have:2*M*(i:Int)≤2*M*3:=Int.mul_le_mul_of_nonneg_left (by omega) (by omega);omega
  ·omega
 refine JqU (fun m vs=>∃ i:Nat,i≤3∧m=3-i∧vs=[.l (dL (acc i).c),.l (dL (acc i).d),.i i,.i (acc i).k]) rfl 3 ⟨0,by omega,rfl,rfl⟩ ?_;rintro m _ ⟨i,hi,hm,rfl⟩;refine JqL ((i:Int)<3) rfl (fun h=>?_) (fun h=>?_)
 ·obtain⟨x,hx,hd⟩:=Jau (l:=pots) (i:=(i:Int)) (by omega) (by omega);have hsx:=hp x (Jrg hx);refine JqO (ds:=dF pots) i rfl rfl rfl (by omega) hd rfl ?_;refine JqO (ds:=dL f.c) i rfl rfl rfl (by omega) (ZW (by omega) (by omega)) rfl ?_;have hy:=KB f3 (k:=(i:Int).toNat) (by omega);have hn:acc (i+1)=JJ (acc i) x (f.c.getD (i:Int).toNat 0):=by
   rw[Int.toNat_natCast] at hx;have e2:f.c[i]? = some (f.c.getD (i:Int).toNat 0):=by simp[Jrc,show i<f.c.length by omega]
   simp only[acc];rw[tS1 hx,tS1 e2,List.zip_append (by simp;omega),List.foldl_append];rfl
  refine JqP (args:=(acc i).cells++x.cells++[dI (f.c.getD (i:Int).toNat 0)]) rfl rfl (Ui (hacc i hi) (hsx.mono (by omega)) (by omega) (by omega)) rfl ?_;refine JqI (vs:=[.l (dL (acc (i+1)).c),.l (dL (acc (i+1)).d),.i ((i+1:Nat):Int),.i (acc (i+1)).k]) ?_ ⟨m-1,by omega,i+1,by omega,by omega,rfl⟩;rw[hn];show [V.l _,V.l _,V.i (i64.wrap ((i:Int)+1)),V.i _]=_;rw[w64 (by omega) (by omega)];rfl
 refine JqG ?_;have hi3:i=3:=by omega
 subst hi3;refine JqP (args:=(acc 3).cells) rfl rfl (ok _ (hacc 3 (by omega))) rfl ?_;refine JqM rfl ?_;refine JqK ?_;show (acc 3).cells=_;simp only[acc];rw[Jrd (by omega),Jrd (by omega)];rfl
/- What the reference's ways through an act come to. -/
theorem JgZ {l:List Frm} {i:Nat} (h:i<l.length):l.getD i Frm.none∈l∧l[i]? = some (l.getD i Frm.none):=by
 rw[Jrc,Jrk h];exact⟨List.getElem_mem h,rfl⟩
def Zy (p:List Frm):List Frm:=[JJ (p.getD 0 Frm.none) (Ju 0) (-1),JJ (p.getD 1 Frm.none) (Ju 1) (-1),JJ (p.getD 2 Frm.none) (Ju 2) (-1)]
theorem Jnb {p g t:List Frm} {M:Int} (hp:p.length=3) (sp :∀f∈p,Std M f) (hg:g.length≤2000000) (sg :∀f∈g,Std M f) (ht:t.length≤2000000) (st :∀f∈t,Std M f) (h0:1≤M) (hM:M≤1000000000) :
  Ev L f_k12 [.s (dF p),.s (dF g),.s (dF t)] (Yy p g t).cells:=by
 refine Jq7 (vs:=[.l (dF p),.l (dF g),.l (dF t)]) L_k12 rfl ?_;refine JqP (args:=[.s (dF g)]) rfl rfl (XU hg sg (by omega) hM) rfl ?_;refine JqP (args:=[.s (dF t)]) rfl rfl (XU ht st (by omega) hM) rfl ?_;refine JqU (fun m vs=>∃ i:Nat,i≤3∧m=3-i∧vs=[.l (dF ((Zy p).take i)),.i i]) rfl 3 ⟨0,by omega,rfl,rfl⟩ ?_;rintro m _ ⟨i,hi,hm,rfl⟩;refine JqL ((i:Int)<3) rfl (fun h=>?_) (fun h=>?_)
 ·obtain⟨x,hx,hd⟩:=Jau (l:=p) (i:=(i:Int)) (by omega) (by omega);have hsx:=sp x (Jrg hx);refine JqO (ds:=dF p) i rfl rfl rfl (by omega) hd rfl ?_;refine JqP (args:=[dI i]) rfl rfl (Y9 i (by omega) (by omega)) rfl ?_;rw[Int.toNat_natCast] at hx;refine JqP (args:=x.cells++(Ju (i:Int).toNat).cells++[dI (-1)]) rfl rfl (Ui hsx (Qw.mono h0) hM (by omega)) rfl ?_;have hn:(Zy p)[i]? = some (JJ x (Ju (i:Int).toNat) (-1)):=by
   have e:p.getD i Frm.none=x:=by rw[Jrc,hx];rfl
   subst e;rw[Int.toNat_natCast]
   match i,h with
   | 0,_=>rfl
   | 1,_=>rfl
   | 2,_=>rfl
   | n+3,h=>omega
  refine Jq1 (dF ((Zy p).take i)++[(JJ x (Ju (i:Int).toNat) (-1)).g]) rfl (by rw[QO,JL];simp;omega) ?_;refine JqI (vs:=[.l (dF ((Zy p).take (i+1))),.i ((i+1:Nat):Int)]) ?_ ⟨m-1,by omega,i+1,by omega,by omega,rfl⟩;show [V.l (dF ((Zy p).take i)++[(JJ x (Ju (i:Int).toNat) (-1)).g]),V.i (i64.wrap ((i:Int)+1))]=_;rw[QO,tS1 hn,w64 (by omega) (by omega)];rfl
 ·refine JqG (JqK ?_);have hi3:i=3:=by omega
  subst hi3;rfl
structure Qf (act:List Jd):Prop where
 len:act.length≤6
 ok :∀l∈act,l.ok=true
theorem Jdx {act:List Jd} (h:QI act=true):Qf act:=by
 simp only[QI,Jq9,decide_eq_true_eq,Jrm] at h;exact⟨by omega,h.1.1⟩
theorem JgJ {l:Jd} (h:l.ok=true) (h4 : ¬l.kind=4):l.f.small=true:=by
 unfold Jd.ok at h;split at h
 ·simp only[Jq9] at h;exact h.2
 split at h
 ·simp only[Jq9] at h;exact h.2
 split at h
 ·simp only[Jq9] at h;exact h.2
 ·simp[h4] at h
theorem JnJ {l:Jd} (h:l.ok=true) (h2:l.kind=2):0≤l.pot∧l.pot≤2:=by
 unfold Jd.ok at h;rw[if_neg (by omega),if_pos h2] at h;simp only[Jq9,JH] at h;exact h.1.1
theorem Jkj {l:Jd} (h:l.ok=true) (h1:l.kind=1):1≤l.skip∧l.skip≤6:=by
 unfold Jd.ok at h;rw[if_pos h1] at h;simp only[Jq9,JH] at h;exact h.1.2
theorem ZY {α:Type} {l:List α} {i:Nat} {x:α} (h:l[i]? = some x):l.drop i=x::l.drop (i+1):=by
 obtain⟨h1,h2⟩:=Jra.1 h;rw[List.drop_eq_getElem_cons h1,h2]
theorem Z3 {α:Type} {l:List α} {x:α} {p:α→Prop} (h :∀y∈l,p y) (hx:p x) :∀y∈l++[x],p y:=by
 intro y hy;rcases Jre.1 hy with hy | hy
 ·exact h y hy
 ·simp at hy;subst hy;exact hx
theorem Jlx (a b:List Row):JY a++JY b=JY (a++b):=by simp[JY]
set_option maxHeartbeats 4000000 in
theorem JkI {act:List Jd} (hact:Qf act) :∀(n:Nat) (at_:Int) (p g t:List Frm) (j:Nat),0≤at_→at_≤20→act.length-at_.toNat=n→(j:Int)≤at_→j≤6 →
  p.length=3→(∀f∈p,Std (Bd j) f)→g.length≤j→(∀f∈g,Std 10000000 f)→t.length≤j→(∀f∈t,Std 10000000 f) →
  Ev L f_k13 [.s (Jn act),dI at_,.s (dF p),.s (dF g),.s (dF t)] [.s (JY (walk (act.drop at_.toNat) p g t))]:=by
 intro n
 induction n using Nat.strongRecOn with
 | _ n ih =>
  intro at_ p g t j a0 a20 hn hj hj6 hp sp hg sg ht st;have hal:=hact.len;refine Jq7 (vs:=[.l (Jn act),.i at_,.l (dF p),.l (dF g),.l (dF t)]) L_k13 rfl ?_;refine JqU (fun m vs=>∃ (i:Int) (p' t':List Frm) (j':Nat),vs=[.l (dF p'),.l (dF t'),.i i]∧at_≤i∧i≤20∧m=act.length-i.toNat∧(j':Int)≤i∧j≤j'∧j'≤6∧p'.length=3∧(∀f∈p',Std (Bd j') f)∧t'.length≤j'∧(∀f∈t',Std 10000000 f) ∧
   walk (act.drop i.toNat) p' g t'=walk (act.drop at_.toNat) p g t) rfl (act.length-at_.toNat) ⟨at_,p,t,j,rfl,by omega,a20,rfl,hj,by omega,hj6,hp,sp,ht,st,rfl⟩ ?_
  rintro m _ ⟨i,p',t',j',rfl,ai,i20,hm,hj',hjj,hj6',hp',sp',ht',st',hw⟩;have hB:=Jgt hj6';have hB0:=Yo j';refine JqL (i<((Jn act).length:Int)) rfl (fun hi=>?_) (fun hi=>?_)
  ·rw[Qt] at hi;obtain⟨l,hl,hd⟩:=Jc1 (a:=act) (i:=i) (by omega) hi;have hok:=hact.ok l (Jrg hl);have hdr:=ZY hl;have hs1:(i+1).toNat=i.toNat+1:=by omega
   refine JqO (ds:=Jn act) i rfl rfl rfl (by omega) hd rfl ?_;refine JqL (l.kind=4) rfl (fun h4=>?_) (fun h4=>?_)
   ·refine JqP (args:=[.s (dF g)]) rfl rfl (XU (by omega) sg (by omega) (by omega)) rfl ?_;refine JqG (JqK ?_);show [D.s [D.g [.s (dF g),.s [],.s [],dB true]]]=_;rw[←hw,hdr,walk,if_pos h4];rfl
   have hsm:=JgJ hok h4;have hin:=UO hsm hp' sp' hB0;have hin7:Std 10000000 (Jo l.f p'):=hin.mono (by omega);refine JqP (args:=l.f.cells++[.s (dF p')]) rfl rfl (Jig hsm hp' sp' hB0 (by omega)) rfl ?_;have hj5:j'<6:=by omega
   refine JqL (l.kind=1) rfl (fun h1=>?_) (fun h1=>?_)
   ·have hsk:=Jkj hok h1;have hg':(g++[Jo l.f p']).length≤j'+1:=by simp;omega
    have hg2:(g++[Qs (Jo l.f p')]).length≤j'+1:=by simp;omega
    have hmin:Std 10000000 (Qs (Jo l.f p')):=(VP hin).mono (by omega);have spB :∀f∈p',Std (Bd (j'+1)) f:=fun f hf=>(sp' f hf).mono (ZO (by omega));have cp:=XU (by omega:p'.length≤2000000) sp' hB0 (by omega);have cg:=XU (by omega:g.length≤2000000) sg (by omega) (by omega);have ct:=XU (by omega:t'.length≤2000000) st' (by omega) (by omega);refine JqP (args:=[.s (dF p')]) rfl rfl cp rfl ?_;refine JqP (args:=[.s (dF g)]) rfl rfl cg rfl ?_;refine Jq1 (dF g++[(Jo l.f p').g]) rfl (by rw[QO,JL];omega) ?_;refine JqP (args:=[.s (dF t')]) rfl rfl ct rfl ?_;have e1:=ih (act.length-(i+1).toNat) (by omega) (i+1) p' (g++[Jo l.f p']) t' (j'+1) (by omega) (by omega) rfl (by omega) (by omega) hp' spB hg' (Z3 sg hin7) (by omega) st';refine JqP (args:=[.s (Jn act),dI (i+1),.s (dF p'),.s (dF (g++[Jo l.f p'])),.s (dF t')]) rfl ?_ e1 rfl ?_
    ·show [D.s (Jn act),dI (i64.wrap (i+1)),.s (dF p'),.s (dF g++[(Jo l.f p').g]),.s (dF t')]=_;rw[QO,w64 (by omega) (by omega)]
    refine JqP (args:=[.s (dF p')]) rfl rfl cp rfl ?_;refine JqP (args:=[.s (dF g)]) rfl rfl cg rfl ?_;refine JqP (args:=(Jo l.f p').cells) rfl rfl (Jjr hin7 (by omega) (by omega)) rfl ?_;refine Jq1 (dF g++[(Qs (Jo l.f p')).g]) rfl (by rw[QO,JL];omega) ?_;refine JqP (args:=[.s (dF t')]) rfl rfl ct rfl ?_;have e2:=ih (act.length-(i+1+l.skip).toNat) (by omega) (i+1+l.skip) p' (g++[Qs (Jo l.f p')]) t' (j'+1) (by omega) (by omega) rfl (by omega) (by omega) hp' spB hg2 (Z3 sg hmin) (by omega) st';refine JqP (args:=[.s (Jn act),dI (i+1+l.skip),.s (dF p'),.s (dF (g++[Qs (Jo l.f p')])),.s (dF t')]) rfl ?_ e2 rfl ?_
    ·show [D.s (Jn act),dI (i64.wrap (i64.wrap (i+1)+l.skip)),.s (dF p'),.s (dF g++[(Qs (Jo l.f p')).g]),.s (dF t')]=_;rw[QO,w64 (n:=i+1) (by omega) (by omega),w64 (by omega) (by omega)]
    have wl :∀(k:Nat) (a b c:List Frm),(walk (act.drop k) a b c).length≤64:=fun k a b c=>by
     refine Nat.le_trans (JgC _ _ _ _) ?_;exact Nat.le_trans (Nat.pow_le_pow_right (by omega) (show (act.drop k).length≤6 by simp;omega)) (by decide)
    have w1:=wl (i+1).toNat p' (g++[Jo l.f p']) t';have w2:=wl (i+1+l.skip).toNat p' (g++[Qs (Jo l.f p')]) t';refine Jq1 (JY (walk (act.drop (i+1+l.skip).toNat) p' (g++[Qs (Jo l.f p')]) t')) rfl (by rw[Xv];omega) ?_;refine Jqx (JkH _) ?_;refine Jq1 (JY (walk (act.drop (i+1).toNat) p' (g++[Jo l.f p']) t')++JY (walk (act.drop (i+1+l.skip).toNat) p' (g++[Qs (Jo l.f p')]) t')) rfl (by rw[Jrf,Xv,Xv];omega) ?_;refine JqG (JqK ?_);show [D.s (JY (walk (act.drop (i+1).toNat) p' (g++[Jo l.f p']) t')++JY (walk (act.drop (i+1+l.skip).toNat) p' (g++[Qs (Jo l.f p')]) t'))]=_;rw[Jlx,←hw,hdr,walk,if_neg h4,if_pos h1,List.drop_drop,hs1,show i.toNat+1+l.skip.toNat=(i+1+l.skip).toNat by omega]
   refine JqL (l.kind=2) rfl (fun h2=>?_) (fun h2=>?_)
   ·have hpt:=JnJ hok h2;have hlt:l.pot.toNat<p'.length:=by omega
    obtain⟨hm1,hm2⟩:=JgZ hlt;have hdg:(dF p')[l.pot.toNat]? = some (p'.getD l.pot.toNat Frm.none).g:=mA1 (f:=Frm.g) hm2;refine JqP (args:=[.s (dF p')]) rfl rfl (XU (by omega) sp' hB0 (by omega)) rfl ?_;refine JqF (0≤l.pot) rfl hpt.1 ?_;refine JqF (l.pot<((dF p').length:Int)) rfl (by rw[JL];omega) ?_;refine JqO (ds:=dF p') l.pot rfl rfl rfl hpt.1 hdg rfl ?_;refine JqP (args:=(p'.getD l.pot.toNat Frm.none).cells++(Jo l.f p').cells++[dI 1]) rfl rfl (Ui ((sp' _ hm1).mono (by omega)) hin7 (by omega) (by omega)) rfl ?_;refine JqF (0≤l.pot) rfl hpt.1 ?_;refine JqF (l.pot<((dF p').length:Int)) rfl (by rw[JL];omega) ?_;refine JqO (ds:=dF p') l.pot rfl rfl rfl hpt.1 hdg rfl ?_;have hsum:Std (Bd (j'+1)) (JJ (p'.getD l.pot.toNat Frm.none) (Jo l.f p') 1):=(Qv (sp' _ hm1) hin (n:=1) (N:=1) (by omega)).mono (by simp only[Bd];omega);refine JqI (vs:=[.l (dF (p'.set l.pot.toNat (JJ (p'.getD l.pot.toNat Frm.none) (Jo l.f p') 1))),.l (dF t'),.i (i+1)]) ?_
     ⟨act.length-(i+1).toNat,by omega,i+1,p'.set l.pot.toNat (JJ (p'.getD l.pot.toNat Frm.none) (Jo l.f p') 1),t',j'+1,rfl,by omega,by omega,rfl,by omega,by omega,by omega,by simp[hp'],?_,by omega,st',?_⟩
    ·show [V.l ((dF p').set l.pot.toNat (JJ (p'.getD l.pot.toNat Frm.none) (Jo l.f p') 1).g),V.l (dF t'),V.i (i64.wrap (i+1))]=_;rw[w64 (by omega) (by omega)];simp[dF,List.map_set]
    ·intro f hf;rcases Jry hf with hf | hf
     ·exact(sp' f hf).mono (ZO (by omega))
     ·subst hf;exact hsum
    ·rw[←hw,hdr,hs1];conv=>rhs;rw[walk];rw[if_neg h4,if_neg h1,if_pos h2]
   ·refine JqP (args:=[.s (dF t')]) rfl rfl (XU (by omega) st' (by omega) (by omega)) rfl ?_;refine Jq1 (dF t'++[(Jo l.f p').g]) rfl (by rw[QO,JL,Jrf,List.length_singleton];omega) ?_;refine JqI (vs:=[.l (dF p'),.l (dF (t'++[Jo l.f p'])),.i (i+1)]) ?_
     ⟨act.length-(i+1).toNat,by omega,i+1,p',t'++[Jo l.f p'],j'+1,rfl,by omega,by omega,rfl,by omega,by omega,by omega,hp',fun f hf=>(sp' f hf).mono (ZO (by omega)),by simp;omega,Z3 st' hin7,?_⟩
    ·show [V.l (dF p'),V.l (dF t'++[(Jo l.f p').g]),V.i (i64.wrap (i+1))]=_;rw[QO,w64 (by omega) (by omega)]
    ·rw[←hw,hdr,hs1];conv=>rhs;rw[walk];rw[if_neg h4,if_neg h1,if_neg h2]
  ·rw[Qt] at hi;refine JqG ?_;refine JqP (args:=[.s (dF p'),.s (dF g),.s (dF t')]) rfl rfl (Jnb (M:=10000000) hp' (fun f hf=>(sp' f hf).mono (by omega)) (by omega) sg (by omega) st' (by omega) (by omega)) rfl ?_;refine JqK ?_;show [D.s [(Yy p' g t').g]]=_;rw[←hw,List.drop_eq_nil_of_le (by omega),walk];rfl
theorem JeQ (act:List Jd) (hf:YS act):Ev L f_k14 [.s (Jn act)] [.s (JY (Jw act))]:=by
 refine Jq7 (vs:=[.l (Jn act)]) L_k14 rfl ?_;refine JqP (args:=[.s (Jn act)]) rfl rfl (Jgo act hf) rfl ?_;refine JqL (QI act=false) ?_ (fun h=>JqK ?_) (fun h=>?_)
 ·show (!(QI act))=_;cases QI act <;> rfl
 ·show [D.s []]=_;simp[Jw,h,JY]
 have h:QI act=true:=by simpa using h
 refine JqP (args:=[dI 0]) rfl rfl (Y9 0 (by omega) (by omega)) rfl ?_;refine JqP (args:=[dI 1]) rfl rfl (Y9 1 (by omega) (by omega)) rfl ?_;refine JqP (args:=[dI 2]) rfl rfl (Y9 2 (by omega) (by omega)) rfl ?_;have e:=JkI (Jdx h) act.length 0 [Ju 0,Ju 1,Ju 2] [] [] 0 (by omega) (by omega) (by simp) (by omega) (by omega) rfl (by
  intro f hf';simp at hf';rcases hf' with rfl | rfl | rfl <;> exact Qw) (by simp) (by simp) (by simp) (by simp)
 refine JqP (args:=[.s (Jn act),dI 0,.s (dF [Ju 0,Ju 1,Ju 2]),.s (dF []),.s (dF [])]) rfl rfl e rfl ?_;refine JqK ?_;show [D.s (JY (walk (act.drop (0:Int).toNat) [Ju 0,Ju 1,Ju 2] [] []))]=_;simp[Jw,h]
/- What the reference's parts,pins,and draws of them come to. -/
def QP (as:List (List Jd)):Prop:=as.length≤2000000∧∀a∈as,YS a
theorem Jnm.fit {as:List (List Jd)} (h:Jnm as):QP as:=⟨by have:=h.1;omega,fun a ha=>(h.2 a ha).fit⟩
theorem Jm9 (as:List (List Jd)) (hf:QP as):Ev L f_kr [.s (Jf as)] [dB (QA as)]:=by
 have hl:=hf.1;refine Jq7 (vs:=[.l (Jf as)]) L_kr rfl ?_;refine JqC (Qg as.length 1 4) rfl ?_ rfl ?_
 ·show [dI ((Jf as).length:Int),dI 1,dI 4]=_;rw[QC]
 refine JqA (inB as.length 1 4) rfl (fun h=>JqK ?_) (fun h=>?_)
 ·show [dB false]=_;simp[QA,h]
 refine JqH as.length (fun i=>[.i i]) (fun i=>(as.take i).all QI=true) rfl rfl (by simp) fun i hi hp=>?_;refine Jqv i (QC as) rfl (fun h'=>?_) (fun h'=>?_)
 ·obtain⟨x,hx,hm⟩:=sA1 h';refine JqJ i (mA1 (f:=fun a=> .s (Jn a)) hx) rfl rfl rfl rfl ?_;refine JqC (Jgo x (hf.2 x hm)) rfl rfl rfl ?_;refine JqA (QI x) rfl (fun hb=>JqG (JqK ?_)) (fun hb=>?_)
  ·show [dB false]=_;simp[QA,XK hx hb]
  ·refine JqI (vs:=[.i ((i+1:Nat):Int)]) ?_ ⟨h',rfl,Qr hx hp hb⟩;show [V.i (i64.wrap ((i:Int)+1))]=_;rw[wS h' (by omega)]
 ·refine JqG (JqK ?_);rw[tA1 h'] at hp;show [dB true]=_;simp only[QA,h,hp];simp
theorem Jb6 (f:Frm) (hl:Lim 1000000000 f.c) (hn:f.c.length≤2000000):Ev L f_k16 f.cells [.s (dL (Ji f.c))]:=by
 refine Jq7 (vs:=[.l (dL f.c),.l (dL f.d),.i f.k]) L_k16 rfl ?_;refine JqH f.c.length (fun i=>[.l (dL (Ji (f.c.take i))),.i (Yn (f.c.take i)),.i i]) (fun _=>True) rfl rfl trivial fun i hi _=>?_;refine Jqv i (dL1 f.c) rfl (fun h=>?_) (fun h=>?_)
 ·obtain⟨x,hx,hm⟩:=sA1 h;have hd:=mA1 (f:=dI) hx;have hxl:=hl x hm;have hs:=JgW (f.c.take i) x;have hps:=Jky (f.c.take i) x;rw[←tS1 hx] at hs hps;have hlen:(Ji (f.c.take i)).length≤i:=by rw[Uq];simp;omega
  have hin:=Jff (f.c.take i);have fin :∀(s:Int) (l:List V),s=Yn (f.c.take (i+1))→[V.l (dL (Ji (f.c.take i))++[dI (i64.wrap (s*x))]),V.i s,V.i (i64.wrap ((i:Int)+1))]=[V.l (dL (Ji (f.c.take (i+1)))),.i (Yn (f.c.take (i+1))),.i ((i+1:Nat):Int)]:=by
   intro s _ e;subst e;rw[wS h (by omega),hps,w64,UT]
   ·rcases Jff (f.c.take (i+1)) with e | e | e <;> rw[e] <;> omega
   ·rcases Jff (f.c.take (i+1)) with e | e | e <;> rw[e] <;> omega
  generalize hS:Yn (f.c.take i)=S at *;refine JqL (S=0) rfl (fun h0=>?_) (fun h0=>?_)
  ·subst h0;simp only[if_true] at hs;refine JqJ i hd rfl rfl rfl rfl ?_;refine JqL (0<x) rfl (fun h1=>?_) (fun h1=>?_)
   ·refine JqJ i hd rfl rfl rfl rfl ?_;refine JqR (dL (Ji (f.c.take i))) 2000000 (by rw[dL1];omega) (by omega) rfl ?_;rw[if_pos h1] at hs;exact JqI (fin 1 [] hs.symm) ⟨h,rfl,trivial⟩
   ·refine JqL ((0:Int)=0) rfl (fun _=>?_) (fun h=>absurd rfl h);refine JqJ i hd rfl rfl rfl rfl ?_;refine JqL (x<0) rfl (fun h2=>?_) (fun h2=>?_)
    ·refine JqJ i hd rfl rfl rfl rfl ?_;refine JqR (dL (Ji (f.c.take i))) 2000000 (by rw[dL1];omega) (by omega) rfl ?_;rw[if_neg h1,if_pos h2] at hs;exact JqI (fin (-1) [] hs.symm) ⟨h,rfl,trivial⟩
    ·refine JqJ i hd rfl rfl rfl rfl ?_;refine JqR (dL (Ji (f.c.take i))) 2000000 (by rw[dL1];omega) (by omega) rfl ?_;rw[if_neg h1,if_neg h2] at hs;exact JqI (fin 0 [] hs.symm) ⟨h,rfl,trivial⟩
  ·rw[if_neg h0] at hs;refine JqL (S=0) rfl (fun h=>absurd h h0) (fun _=>?_);refine JqJ i hd rfl rfl rfl rfl ?_;refine JqR (dL (Ji (f.c.take i))) 2000000 (by rw[dL1];omega) (by omega) rfl ?_;exact JqI (fin S [] hs.symm) ⟨h,rfl,trivial⟩
 ·refine JqG (JqK ?_);show [D.s (dL (Ji (f.c.take i)))]=_;rw[tA1 h]
def JpE (cmp : E) (sh : Sh) : R :=
  .ite (.not (.cmp .eq (.len (.v 0)) (.len (.v 1))))
   (
    .done [(.vb .ff)])
   (
    .loop 2 [(.z 0)] <|
      .ite (.cmp .lt (.v 2) (.len (.v 0)))
       (
        .i (.idx (.v 0) (.v 2) sh 3) <|
        .i (.idx (.v 1) (.v 2) sh 4) <|
        .ite (.not cmp)
         (
          .esc <|
          .done [(.vb .ff)])
         (
          .next [(.bin .add .i64 (.v 2) (.z 1))]))
       (
        .esc <|
        .done [(.vb .tt)]))
theorem JfR {α:Type} [DecidableEq α] {f:FuncId} {H:XQ} {s:Sig} {cmp:E} {sh:Sh} (enc:α→D) (vOf:α→V) (a b:List α) (hf:L.lookup f=some ⟨s,.r H (JpE cmp sh)⟩) (hs:Zn s=[.s,.s])
  (hb :∀x,YW sh (enc x)=some [vOf x]) (hc :∀(v0 v1 v2:V) (x y:α),bol (Jp [v0,v1,v2,vOf x,vOf y]) cmp=decide (x=y)) (hl:a.length≤2000000) :
  Ev L f [.s (a.map enc),.s (b.map enc)] [dB (decide (a=b))]:=by
 refine Jq7 (vs:=[.l (a.map enc),.l (b.map enc)]) hf (by rw[hs];rfl) ?_;refine JqL (¬a.length=b.length) ?_ (fun h=>JqK ?_) (fun h=>?_)
 ·show (!(decide (((a.map enc).length:Int)=((b.map enc).length:Int))))=_;rw[Jri,Jri]
  by_cases h:a.length=b.length
  ·simp[h]
  ·simp[h,show ¬(a.length:Int)=b.length by omega]
 ·show [dB false]=_;rw[decide_eq_false];intro e;exact h (by rw[e])
 have h:a.length=b.length:=Classical.not_not.1 h;refine JqH a.length (fun i=>[.i i]) (fun i=>a.take i=b.take i) rfl rfl rfl fun i hi hp=>?_;refine Jqv i (Jri (f:=enc) (as:=a)) rfl (fun h'=>?_) (fun h'=>?_)
 ·obtain⟨x,hx,_⟩:=sA1 h';obtain⟨y,hy,_⟩:=sA1 (show i<b.length by omega);refine JqJ i (mA1 (f:=enc) hx) rfl rfl rfl (hb x) ?_;refine JqJ i (mA1 (f:=enc) hy) rfl rfl rfl (hb y) ?_;refine JqA (decide (x=y)) ?_ (fun hxy=>JqG (JqK ?_)) (fun hxy=>?_)
  ·show (!(bol (Jp [V.l (a.map enc),.l (b.map enc),.i i,vOf x,vOf y]) cmp))=_;rw[hc]
  ·show [dB false]=_;rw[decide_eq_false];intro e;subst e;rw[hx] at hy;simp only[Jq8] at hy;simp[hy] at hxy
  ·have hxy:x=y:=by simpa using hxy
   subst hxy;refine JqI (vs:=[.i ((i+1:Nat):Int)]) ?_ ⟨h',rfl,by show a.take (i+1)=b.take (i+1);rw[tS1 hx,tS1 hy,hp]⟩;show [V.i (i64.wrap ((i:Int)+1))]=_;rw[wS h' (by omega)]
 ·refine JqG (JqK ?_);rw[tA1 h',tA1 (by omega)] at hp;subst hp;show [dB true]=_;simp
theorem W7 (a b:List Int) (hl:a.length≤2000000):Ev L f_k17 [.s (dL a),.s (dL b)] [dB (decide (a=b))] :=
 JfR dI .i a b L_k17 rfl (fun _=>rfl) (fun _ _ _ _ _=>rfl) hl
theorem Jes (l:List (List Int)) (p:List Int) (hl:l.length≤2000000) (hq :∀q∈l,q.length≤2000000):Ev L f_k18 [.s (dLL l),.s (dL p)] [dI (ZF l p)]:=by
 refine Jq7 (vs:=[.l (dLL l),.l (dL p)]) L_k18 rfl ?_;refine JqH l.length (fun i=>[.i i]) (fun i=>(l.take i).any (fun q=>decide (q=p))=false) rfl rfl (by simp) fun i hi hn=>?_;refine Jqv i (Kz l) rfl (fun h=>?_) (fun h=>?_)
 ·obtain⟨x,hx,hm⟩:=sA1 h;refine JqJ i (mA1 (f:=fun x=> .s (dL x)) hx) rfl rfl rfl rfl ?_;refine JqC (W7 x p (hq x hm)) rfl rfl rfl ?_;refine JqZ (decide (x=p)) rfl (fun hp=>JqG (JqK ?_)) (fun hp=>?_)
  ·show [dI i]=_;rw[ZF,Jdb hx hp hn]
  ·refine JqI (vs:=[.i ((i+1:Nat):Int)]) ?_ ⟨h,rfl,Jcn hx hn hp⟩;show [V.i (i64.wrap ((i:Int)+1))]=_;rw[wS h (by omega)]
 ·refine JqG (JqK ?_);rw[tA1 h] at hn;show [dI (-1)]=_;rw[ZF,JbW hn]
theorem Jn9 (p:List Bool):XP 1 (dBl p)=true:=by cases p <;> rfl
theorem Jcc (p:List Bool) (fs:List Frm) (hp:p.length=3) (hc :∀f∈fs,f.c.length=3) (hl:fs.length≤2000000):Ev L f_k15 [.s (dBl p),.s (dF fs)] [.s (dBl (Qn p fs))]:=by
 refine Jq7 (vs:=[.l (dBl p),.l (dF fs)]) L_k15 rfl ?_;refine JqQ (dBl p) 3 (by rw[JfA];omega) (by omega) rfl ?_;refine Jqx (Jn9 p) ?_;refine JqQ (dBl p) 3 (by rw[JfA];omega) (by omega) rfl ?_;refine JqH fs.length (fun i=>[.l (dBl (Qn p (fs.take i))),.i i]) (fun _=>True) rfl rfl trivial fun i hi _=>?_;refine Jqv i (JL fs) rfl (fun h=>?_) (fun h=>?_)
 ·obtain⟨x,hx,hm⟩:=sA1 h;have hx3:=hc x hm;have hP:(Qn p (fs.take i)).length=3:=Ze hp fun f hf=>hc f (Jrx hf);have hS:Qn p (fs.take (i+1))=Ku (Qn p (fs.take i)) x.c:=QY hx;generalize Qn p (fs.take i)=P at *;have hO:(Ku P x.c).length=3:=by rw[Wo];omega
  refine JqH 3 (fun v=>[.l (dBl ((Ku P x.c).take v++P.drop v)),.i v]) (fun _=>True) rfl rfl trivial fun v hv _=>?_;refine JqW v 3 rfl (fun hv3=>?_) (fun hv3=>?_)
  ·obtain⟨n,hn,_⟩:=sA1 (show v<x.c.length by omega);obtain⟨b,hb,_⟩:=sA1 (show v<P.length by omega);have ho:(Ku P x.c)[v]? = some (b||decide (n≠0)):=by simp[Ku,List.getElem?_zipWith,hn,hb]
   refine JqJ i (mA1 (f:=Frm.g) hx) rfl rfl rfl rfl ?_;refine JqJ v (mA1 (f:=dI) hn) rfl rfl rfl rfl ?_;have hlen:((Ku P x.c).take v++P.drop v).length=3:=by simp;omega
   refine JqA (decide (n=0)) rfl (fun h0=>?_) (fun h0=>?_)
   ·obtain⟨b',hb',_⟩:=sA1 (show v<((Ku P x.c).take v++P.drop v).length by omega);refine JqB v (mA1 (f:=dB) hb') rfl rfl rfl rfl rfl rfl ?_;have h0:n≠0:=by simpa using h0
    have ho:(Ku P x.c)[v]? = some true:=by rw[ho];simp[h0]
    refine JqI (vs:=[.l (dBl ((Ku P x.c).take (v+1)++P.drop (v+1))),.i ((v+1:Nat):Int)]) ?_ ⟨hv3,rfl,trivial⟩;show [V.l ((dBl ((Ku P x.c).take v++P.drop v)).set (v:Int).toNat (dB true)),V.i (i64.wrap ((v:Int)+1))]=_;rw[wS hv3 (by omega),Jj5,Int.toNat_natCast,Jma (by omega) ho]
   ·have h0:n=0:=by simpa using h0
    refine JqI (vs:=[.l (dBl ((Ku P x.c).take (v+1)++P.drop (v+1))),.i ((v+1:Nat):Int)]) ?_ ⟨hv3,rfl,trivial⟩;show [V.l (dBl ((Ku P x.c).take v++P.drop v)),V.i (i64.wrap ((v:Int)+1))]=_;rw[wS hv3 (by omega),JkV (s:=b) (by rw[ho];simp[h0]) hb]
  ·have:v=3:=by omega
   subst this;rw[Jrd (by omega),List.drop_eq_nil_of_le (by omega),List.append_nil];refine JqG ?_;refine JqI (vs:=[.l (dBl (Qn p (fs.take (i+1)))),.i ((i+1:Nat):Int)]) ?_ ⟨h,rfl,trivial⟩;show [V.l (dBl (Ku P x.c)),V.i (i64.wrap ((i:Int)+1))]=_;rw[wS h (by omega),hS]
 ·refine JqG (JqK ?_);show [D.s (dBl (Qn p (fs.take i)))]=_;rw[tA1 h]
end Go.Proofs.YtgpjnnkmmplicaaGreatDoor
