import Derived.Test.YtngcnclchcahlabGreatDoorR
import Derived.Test.YtngcnclchcahlabGreatDoorTd
set_option linter.unusedVariables false
set_option linter.unusedSimpArgs false
/- What the draws come to: a reader's picks,and what is drawn by them. -/
namespace Go.Proofs.YtngcnclchcahlabGreatDoor
open Go Go.Tm
open Go.IntKind (i64)
structure Rdr (bs:List Int) (p:Int):Prop where
 byte :∀x∈bs,0≤x∧x<256
 len:bs.length≤2000
 pos:0≤p
 far:p≤1000000000000
theorem V3 {bs:List Int} {p n:Int} (hr:Rdr bs p) (hn:n≤2000000) :
  ∃ v,Ev L f_k1 [.s (Ja bs),dI p,dI n] [dI v,.s (Ja bs),dI (p+1)]∧(n<1→v=0)∧(1≤n→0≤v∧v<n):=by
 have hp:=hr.pos;have hf:=hr.far;have hl:=hr.len;have w1:i64.wrap (p+1)=p+1:=w64 (by omega) (by omega);have w2:i64.wrap (p+1-1)=p:=by rw[w64 (by omega) (by omega)];omega
 have key : ∃ ds,Ev L f_k1 [.s (Ja bs),dI p,dI n] ds∧∃ v,ds=[dI v,.s (Ja bs),dI (p+1)]∧(n<1→v=0)∧(1≤n→0≤v∧v<n):=by
  refine JuY (vs:=[.l (Ja bs),.i p,.i n]) L_k1 rfl ?_;have hend :∀v:Int,[dI v,.s (Ja bs),dI (i64.wrap (p+1))]=[dI v,.s (Ja bs),dI (p+1)]:=fun v=>by rw[w1]
  refine JuB (n<1) rfl (fun h=>Jun ⟨0,hend 0,fun _=>rfl,fun h'=>by omega⟩) (fun h=>?_);refine JuB (((Ja bs).length:Int)=0) rfl (fun h'=>Jun ⟨0,hend 0,fun _=>rfl,fun h'=>by omega⟩) (fun h0=>?_);rw[Q3] at h0;refine JuB (i64.wrap (i64.wrap (p+1)-1)<((Ja bs).length:Int)) rfl (fun h1=>?_) (fun h1=>?_)
  ·rw[w1,w2,Q3] at h1;have hb:=XU hr.byte (show p.toNat<bs.length by omega);refine Juz (ds:=Ja bs) p rfl rfl (show i64.wrap (i64.wrap (p+1)-1)=p by rw[w1,w2]) hp (WH hp h1) rfl ?_;refine JuE (¬n=0) (by simp[bol,den,V.bool,V.int,CO.sem,Jo]) (by omega) ?_;refine Jun ⟨(i64.wrap (bs.getD p.toNat 0)).tmod n,hend _,fun h'=>absurd h' h,fun h'=>?_⟩;rw[w64 (by omega) (by omega),Int.tmod_eq_emod_of_nonneg hb.1];exact⟨Int.emod_nonneg _ (by omega),Int.emod_lt_of_pos _ (by omega)⟩
  ·have hw:i64.wrap (i64.wrap (p+1)-1)=p:=by rw[w1,w2]
   have hlp:0<(bs.length:Int):=by omega
   have hm1:0≤p.tmod bs.length∧p.tmod bs.length<bs.length:=by
    rw[Int.tmod_eq_emod_of_nonneg hp];exact⟨Int.emod_nonneg _ (by omega),Int.emod_lt_of_pos _ hlp⟩
   have hq:0≤i64.wrap (i64.wrap (p*7)+3):=by rw[w64 (n:=p*7) (by omega) (by omega),w64 (by omega) (by omega)];omega
   have hm2:0≤(i64.wrap (i64.wrap (p*7)+3)).tmod bs.length∧(i64.wrap (i64.wrap (p*7)+3)).tmod bs.length<bs.length:=by
    rw[Int.tmod_eq_emod_of_nonneg hq];exact⟨Int.emod_nonneg _ (by omega),Int.emod_lt_of_pos _ hlp⟩
   have hb1:=XU hr.byte (show (p.tmod bs.length).toNat<bs.length by omega);have hb2:=XU hr.byte (show ((i64.wrap (i64.wrap (p*7)+3)).tmod bs.length).toNat<bs.length by omega);have c0 :∀(l:List V),bol (Jo ((.l (Ja bs)::l))) (.not (.cmp .eq (.len (.v 0)) (.z 0)))=decide (¬((Ja bs).length:Int)=0):=by
    intro l;simp[bol,den,V.bool,V.int,CO.sem,Jo,V.lst]
   refine JuE (¬((Ja bs).length:Int)=0) (c0 _) (by rw[Q3];exact h0) ?_;refine Juz (ds:=Ja bs) (p.tmod bs.length) rfl rfl ?_ hm1.1 (WH hm1.1 hm1.2) rfl ?_
   ·show (i64.wrap (i64.wrap (p+1)-1)).tmod ((Ja bs).length:Int)=_;rw[hw,Q3]
   refine JuE (¬((Ja bs).length:Int)=0) (c0 _) (by rw[Q3];exact h0) ?_;refine Juz (ds:=Ja bs) ((i64.wrap (i64.wrap (p*7)+3)).tmod bs.length) rfl rfl ?_ hm2.1 (WH hm2.1 hm2.2) rfl ?_
   ·show (i64.wrap (i64.wrap (i64.wrap (i64.wrap (p+1)-1)*7)+3)).tmod ((Ja bs).length:Int)=_;rw[hw,Q3]
   refine JuE (¬((Ja bs).length:Int)=0) (c0 _) (by rw[Q3];exact h0) ?_;refine JuE (¬(64:Int)=0) (by simp[bol,den,V.bool,V.int,CO.sem]) (by omega) ?_;refine JuE (¬n=0) (by simp[bol,den,V.bool,V.int,CO.sem,Jo]) (by omega) ?_;refine Jun ⟨_,hend _,fun h'=>absurd h' h,fun h'=>?_⟩;generalize bs.getD (p.tmod bs.length).toNat 0=b1 at *;generalize bs.getD ((i64.wrap (i64.wrap (p*7)+3)).tmod bs.length).toNat 0=b2 at *;have hd:0≤p.tdiv bs.length∧p.tdiv bs.length≤p:=by
    rw[Int.tdiv_eq_ediv_of_nonneg hp];exact⟨Int.ediv_nonneg hp (by omega),Int.ediv_le_self _ hp⟩
   have e1:i64.wrap b1=b1:=w64 (by omega) (by omega);have e2:i64.wrap b2=b2:=w64 (by omega) (by omega);have hx : ∃ x:Int,i64.wrap (i64.wrap (i64.wrap (i64.wrap (i64.wrap b1*131)+i64.wrap (i64.wrap b2*1117))+i64.wrap (i64.wrap (i64.wrap (p+1)-1)*29))+i64.wrap (i64.wrap ((i64.wrap (i64.wrap (p+1)-1)).tdiv ((Ja bs).length:Int))*53))=x∧0≤x∧x<2 ^ 62:=by
    rw[hw,Q3,e1,e2,w64 (n:=p.tdiv bs.length) (by omega) (by omega),w64 (n:=b1*131) (by omega) (by omega),w64 (n:=b2*1117) (by omega) (by omega),w64 (n:=p*29) (by omega) (by omega),w64 (n:=p.tdiv bs.length*53) (by omega) (by omega),
     w64 (n:=b1*131+b2*1117) (by omega) (by omega),w64 (n:=b1*131+b2*1117+p*29) (by omega) (by omega),w64 (by omega) (by omega)]
    exact⟨_,rfl,by omega,by omega⟩
   obtain⟨x,ex,hx0,hx1⟩:=hx;have main :∀z:Int,z=x→0≤(BO.sem .xor .i64 z (i64.wrap (z.tdiv 64))).tmod n∧(BO.sem .xor .i64 z (i64.wrap (z.tdiv 64))).tmod n<n:=by
    rintro z rfl;have hd64:0≤z.tdiv 64∧z.tdiv 64≤z:=by
     rw[Int.tdiv_eq_ediv_of_nonneg hx0];omega
    rw[w64 (n:=z.tdiv 64) (by omega) (by omega)];have:=Jm0 ⟨hx0,hx1⟩ (show 0≤z.tdiv 64∧z.tdiv 64<2 ^ 62 by omega);rw[Int.tmod_eq_emod_of_nonneg this.1];exact⟨Int.emod_nonneg _ (by omega),Int.emod_lt_of_pos _ (by omega)⟩
   exact main _ ex
 obtain⟨ds,h1,v,rfl,h2⟩:=key;exact⟨v,h1,h2⟩
/- What draws of numbers come to. -/
theorem Jpv (ns:List Int) (hb :∀x∈ns,0≤x∧x<256) : ∃ bs,Ev L f_k0 [.s (Ja ns)] [.s (Ja bs),dI 0]∧Rdr bs 0:=by
 have key : ∃ ds,Ev L f_k0 [.s (Ja ns)] ds∧∃ bs,ds=[.s (Ja bs),dI 0]∧Rdr bs 0:=by
  refine JuY (vs:=[.l (Ja ns)]) L_k0 rfl ?_;refine JuB (2000<((Ja ns).length:Int)) rfl (fun h=>?_) (fun h=>?_)
  ·rw[Q3] at h;refine JuE (2000≤((Ja ns).length:Int)) rfl (by rw[Q3];omega) ?_;refine Jun ⟨ns.take 2000,?_,⟨fun x hx=>hb x (Jvo hx),by simp;omega,by omega,by omega⟩⟩;show [D.s ((Ja ns).take 2000),dI 0]=_;simp[Ja,List.map_take]
  ·rw[Q3] at h;exact Jun ⟨ns,rfl,⟨hb,by omega,by omega,by omega⟩⟩
 obtain⟨ds,h1,bs,rfl,h2⟩:=key;exact⟨bs,h1,h2⟩
theorem Rdr.go {bs:List Int} {p q:Int} (h:Rdr bs p) (h1:p≤q) (h2:q≤1000000000000):Rdr bs q:=⟨h.byte,h.len,by have:=h.pos;omega,h2⟩
theorem Jqj {bs:List Int} {p n:Int} (hr:Rdr bs p) (hf:p≤999999999000) (hn:n≤2000000) :
  ∃ l q,Ev L f_k32 [.s (Ja bs),dI p,dI n] [.s (dL l),.s (Ja bs),dI q]∧p≤q∧q≤p+10∧l.length≤4∧Lim 20000 l:=by
 have key : ∃ ds,Ev L f_k32 [.s (Ja bs),dI p,dI n] ds∧∃ l q,ds=[.s (dL l),.s (Ja bs),dI q]∧p≤q∧q≤p+10∧l.length≤4∧Lim 20000 l:=by
  refine JuY (vs:=[.l (Ja bs),.i p,.i n]) L_k32 rfl ?_;refine JuQ (fun m vs=>∃ (l:List Int) (i:Int),vs=[.l (dL l),.i i,.i (p+i),.l (Ja bs)]∧(l.length:Int)=i∧0≤i∧i≤3∧(m:Int)=3-i∧Lim 20000 l) rfl 3
   ⟨[],0,by simp[den,Jo,dL,V.int],rfl,by omega,by omega,by omega,fun x hx=>by simp at hx⟩ ?_
  rintro m _ ⟨l,i,rfl,hl,h0,h3,hm,hlim⟩;have hri:Rdr bs (p+i):=hr.go (by omega) (by omega);refine JuB (i<3) rfl (fun h=>?_) (fun h=>?_)
  ·obtain⟨v,hv,_,hv2⟩:=V3 hri (n:=9) (by omega);have hv2:=hv2 (by omega);refine JuM (args:=[.s (Ja bs),dI (p+i),dI 9]) rfl rfl hv rfl ?_;refine JuE (0≤v) rfl hv2.1 ?_;refine JuE (v<9) rfl hv2.2 ?_;refine Juz (ds:=dL [0,1,5,20,-3,60,10000,-10000,9996]) v rfl rfl rfl hv2.1 (J1 hv2.1 hv2.2) rfl ?_;have hx:=XU (p:=fun x=>-20000≤x∧x≤20000) (l:=[0,1,5,20,-3,60,10000,-10000,9996]) (by decide) (k:=v.toNat) (by simp;omega);generalize ([0,1,5,20,-3,60,10000,-10000,9996]:List Int).getD v.toNat 0=x at *;refine JuE (((dL l++[dI x]).length:Int)≤8796093022208) rfl (by simp[dL1];omega) ?_;refine JuC (vs:=[.l (dL (l++[x])),.i (i+1),.i (p+(i+1)),.l (Ja bs)]) ?_ ⟨m-1,by omega,l++[x],i+1,rfl,by simp;omega,by omega,by omega,by omega,hlim.snoc hx⟩;show [V.l (dL l++[dI x]),V.i (i64.wrap (i+1)),V.i (p+i+1),V.l (Ja bs)]=_;rw[XI,w64 (by omega) (by omega),Int.add_assoc]
  ·refine Juk ?_;obtain⟨v,hv,_,_⟩:=V3 hri (n:=n) hn;refine JuM (args:=[.s (Ja bs),dI (p+i),dI n]) rfl rfl hv rfl ?_;refine JuB (v=0) rfl (fun hv0=>?_) (fun hv0=>Jun ⟨l,p+i+1,rfl,by omega,by omega,by omega,hlim⟩);obtain⟨u,hu,_,hu2⟩:=V3 (hri.go (q:=p+i+1) (by omega) (by omega)) (n:=3) (by omega);have hu2:=hu2 (by omega);refine JuM (args:=[.s (Ja bs),dI (p+i+1),dI 3]) rfl rfl hu rfl ?_;refine JuB (u=0) rfl (fun hu0=>?_) (fun hu0=>?_)
   ·refine JuE (2≤((dL l).length:Int)) rfl (by rw[dL1];omega) ?_;refine Jun ⟨l.take 2,p+i+1+1,?_,by omega,by omega,by simp;omega,hlim.take 2⟩;show [D.s ((dL l).take 2),D.s (Ja bs),dI (p+i+1+1)]=_;rw[V6]
   refine JuB (u=1) rfl (fun hu1=>?_) (fun hu1=>?_)
   ·refine JuE (((dL l++[dI 0]).length:Int)≤8796093022208) rfl (by simp[dL1];omega) ?_;refine Jun ⟨l++[0],p+i+1+1,?_,by omega,by omega,by simp;omega,hlim.snoc (by omega)⟩;show [D.s (dL l++[dI 0]),D.s (Ja bs),dI (p+i+1+1)]=_;rw[XI]
   obtain⟨a,ha,_,ha2⟩:=V3 (hri.go (q:=p+i+1+1) (by omega) (by omega)) (n:=3) (by omega);have ha2:=ha2 (by omega);refine JuM (args:=[.s (Ja bs),dI (p+i+1+1),dI 3]) rfl rfl ha rfl ?_;obtain⟨b,hb,_,hb2⟩:=V3 (hri.go (q:=p+i+1+1+1) (by omega) (by omega)) (n:=2) (by omega);have hb2:=hb2 (by omega);refine JuM (args:=[.s (Ja bs),dI (p+i+1+1+1),dI 2]) rfl rfl hb rfl ?_;refine JuE (0≤b) rfl hb2.1 ?_;refine JuE (b<2) rfl hb2.2 ?_;refine Juz (ds:=dL [10001,-10001]) b rfl rfl rfl hb2.1 (J1 hb2.1 hb2.2) rfl ?_;have hx:=XU (p:=fun x=>-20000≤x∧x≤20000) (l:=[10001,-10001]) (by decide) (k:=b.toNat) (by simp;omega);generalize ([10001,-10001]:List Int).getD b.toNat 0=x at *;refine JuE (0≤a) rfl ha2.1 ?_;refine JuE (a<((dL l).length:Int)) rfl (by rw[dL1];omega) ?_;refine Juz (ds:=dL l) a rfl rfl rfl ha2.1 (J1 ha2.1 (by omega)) rfl ?_;refine Jun ⟨l.set a.toNat x,p+i+1+1+1+1,?_,by omega,by omega,by simp;omega,hlim.set hx _⟩;show [D.s ((dL l).set a.toNat (dI x)),D.s (Ja bs),dI (p+i+1+1+1+1)]=_;rw[QC]
 obtain⟨ds,h1,l,q,rfl,h2⟩:=key;exact⟨l,q,h1,h2⟩
/- What draws of treaties,of what sites have added,of forms and lines come to. -/
theorem Je {r:R} {l:List V} {Q:Oc→Prop} {c:Nat} {as:List E} {bs:List Int} {p:Int} (n:Int) (hr:Rdr bs p) (h1:1≤n) (hn:n≤2000000) (hc:c=l.length) (ha:as.map (dat (Jo l))=[.s (Ja bs),dI p,dI n])
  (h :∀v,0≤v→v<n→WR L r (l++[.i v,.l (Ja bs),.i (p+1)]) Q):WR L (.i (.call f_k1 as [.i .i64,.s,.i .i64] c) r) l Q:=by
 obtain⟨v,hv,_,hv2⟩:=V3 hr hn;exact JuM hc ha hv rfl (h v (hv2 h1).1 (hv2 h1).2)
theorem Jol {bs:List Int} {p n:Int} (hr:Rdr bs p) (hf:p≤999999990000) (h1:1≤n) (hn:n≤2000000) :
  ∃ a q,Ev L f_k33 [.s (Ja bs),dI p,dI n] [.s (dL a),.s (Ja bs),dI q]∧p≤q∧q≤p+10∧a.length≤4∧Lim 30000 a:=by
 have key : ∃ ds,Ev L f_k33 [.s (Ja bs),dI p,dI n] ds∧∃ a q,ds=[.s (dL a),.s (Ja bs),dI q]∧p≤q∧q≤p+10∧a.length≤4∧Lim 30000 a:=by
  refine JuY (vs:=[.l (Ja bs),.i p,.i n]) L_k33 rfl ?_;refine Je 9 hr (by omega) (by omega) rfl rfl fun u hu0 hu1=>?_;refine Je 9 (hr.go (q:=p+1) (by omega) (by omega)) (by omega) (by omega) rfl rfl fun v hv0 hv1=>?_;refine Je 4 (hr.go (q:=p+1+1) (by omega) (by omega)) (by omega) (by omega) rfl rfl fun w hw0 hw1=>?_;refine JuE (0≤w) rfl hw0 ?_;refine JuE (w<4) rfl hw1 ?_;refine Juz (ds:=dL [0,0,1,-2]) w rfl rfl rfl hw0 (J1 hw0 hw1) rfl ?_;have hx:=XU (p:=fun x=>-30000≤x∧x≤30000) (l:=[0,0,1,-2]) (by decide) (k:=w.toNat) (by simp;omega);generalize ([0,0,1,-2]:List Int).getD w.toNat 0=x at *;have hlim:Lim 30000 [u-4,v-4,x]:=by
   intro y hy;simp at hy;rcases hy with rfl | rfl | rfl
   ·omega
   ·omega
   ·exact hx
  have e:[dI (i64.wrap (u-4)),dI (i64.wrap (v-4)),dI x]=dL [u-4,v-4,x]:=by
   rw[w64 (by omega) (by omega),w64 (by omega) (by omega)];rfl
  refine Je n (hr.go (q:=p+1+1+1) (by omega) (by omega)) h1 hn rfl rfl fun y hy0 hy1=>?_;refine JuB (y=0) rfl (fun hy=>?_) (fun hy=>Jun ⟨[u-4,v-4,x],p+1+1+1+1,?_,by omega,by omega,by simp,hlim⟩)
  ·refine Je 3 (hr.go (q:=p+1+1+1+1) (by omega) (by omega)) (by omega) (by omega) rfl rfl fun z hz0 hz1=>?_;refine JuB (z=0) rfl (fun hz=>?_) (fun hz=>?_)
   ·refine Jun ⟨[u-4,v-4,x].take 2,p+1+1+1+1+1,?_,by omega,by omega,by simp,hlim.take 2⟩;show [D.s ([dI (i64.wrap (u-4)),dI (i64.wrap (v-4)),dI x].take 2),D.s (Ja bs),dI (p+1+1+1+1+1)]=_;rw[e,V6]
   refine JuB (z=1) rfl (fun hz=>?_) (fun hz=>?_)
   ·refine Je 3 (hr.go (q:=p+1+1+1+1+1) (by omega) (by omega)) (by omega) (by omega) rfl rfl fun t ht0 ht1=>?_;refine JuE (0≤t) rfl ht0 ?_;refine JuE (t<3) rfl ht1 ?_;refine Juz (ds:=dL [20001,60,-60]) t rfl rfl rfl ht0 (J1 ht0 ht1) rfl ?_;have hx2:=XU (p:=fun x=>-30000≤x∧x≤30000) (l:=[20001,60,-60]) (by decide) (k:=t.toNat) (by simp;omega);generalize ([20001,60,-60]:List Int).getD t.toNat 0=x2 at *;refine Juz (ds:=dL [u-4,v-4,x]) 0 rfl e rfl (by omega) (J1 (by omega) (by simp)) rfl ?_;refine Jun ⟨[u-4,v-4,x].set 0 x2,p+1+1+1+1+1+1,?_,by omega,by omega,by simp,hlim.set hx2 _⟩;show [D.s ([dI (i64.wrap (u-4)),dI (i64.wrap (v-4)),dI x].set 0 (dI x2)),D.s (Ja bs),dI (p+1+1+1+1+1+1)]=_;rw[e,QC]
   ·refine Jus ([dI (i64.wrap (u-4)),dI (i64.wrap (v-4)),dI x]++[dI 0]) rfl (by simp only[Ju6,List.length_cons,List.length_nil];omega) ?_;refine Jun ⟨[u-4,v-4,x]++[0],p+1+1+1+1+1,?_,by omega,by omega,by simp,hlim.snoc (by omega)⟩;show [D.s ([dI (i64.wrap (u-4)),dI (i64.wrap (v-4)),dI x]++[dI 0]),D.s (Ja bs),dI (p+1+1+1+1+1)]=_;rw[e,XI]
  ·show [D.s [dI (i64.wrap (u-4)),dI (i64.wrap (v-4)),dI x],D.s (Ja bs),dI (p+1+1+1+1)]=_;rw[e]
 obtain⟨ds,e1,a,q,rfl,e2⟩:=key;exact⟨a,q,e1,e2⟩
/- What says whether forms,lines,acts are ok. -/
theorem JT (n a b:Int):Ev L f_k7 [dI n,dI a,dI b] [dB (inB n a b)]:=by
 refine JuV (vs:=[.i n,.i a,.i b]) L_k7 rfl ?_;refine JuB (a≤n) rfl (fun h=>Jun ?_) (fun h=>Jun ?_)
 ·show [dB (decide (n≤b))]=_;simp[inB,h]
 ·show [dB false]=_;simp[inB,h]
theorem Xx (l:List Int) (n m:Int) (hl:l.length≤2000000) (h0:0≤m) (hm:m≤10000000000000):Ev L f_k8 [.s (dL l),dI n,dI m] [dB (JK n m l)]:=by
 refine JuV (vs:=[.l (dL l),.i n,.i m]) L_k8 rfl ?_;have c0:bol (Jo [V.l (dL l),V.i n,V.i m]) (.not (.cmp .eq (.len (.v 0)) (.v 1)))=decide (¬(l.length:Int)=n):=by
  simp[bol,den,V.bool,V.int,V.lst,CO.sem,Jo,dL1]
 refine JuB (¬(l.length:Int)=n) c0 (fun h=>Jun ?_) (fun h=>?_)
 ·show [dB false]=_;simp[JK,h]
 have h:(l.length:Int)=n:=by omega
 refine JuQ (fun k vs=>∃ i:Int,vs=[.i i]∧0≤i∧i≤l.length∧(k:Int)=l.length-i∧(l.take i.toNat).all (fun x=>inB x (0-m) m)=true) rfl l.length ⟨0,rfl,by omega,by omega,by omega,by simp⟩ ?_;rintro k _ ⟨i,rfl,i0,i1,hk,ha⟩;refine JuB (i<((dL l).length:Int)) rfl (fun hi=>?_) (fun hi=>?_)
 ·rw[dL1] at hi;refine Juz (ds:=dL l) i rfl rfl rfl i0 (J1 i0 hi) rfl ?_;have hx:l[i.toNat]? = some (l.getD i.toNat 0):=by simp[Ju3,show i.toNat<l.length by omega]
  generalize l.getD i.toNat 0=x at *;refine JuM (args:=[dI x,dI (0-m),dI m]) rfl ?_ (JT x (0-m) m) rfl ?_
  ·show [dI x,dI (i64.wrap (0-m)),dI m]=_;rw[w64 (by omega) (by omega)]
  refine JuB (inB x (0-m) m=false) ?_ (fun hb=>?_) (fun hb=>?_)
  ·show (!(inB x (0-m) m))=_;cases inB x (0-m) m <;> rfl
  ·refine Juk (Jun ?_);show [dB false]=_;have hna:l.all (fun x=>inB x (0-m) m)=false:=Yw (p:=fun x=>inB x (0-m) m) hx hb;simp only[JK,hna];simp
  ·refine JuC (vs:=[.i (i+1)]) ?_ ⟨k-1,by omega,i+1,rfl,by omega,by omega,by omega,?_⟩
   ·show [V.i (i64.wrap (i+1))]=_;rw[w64 (by omega) (by omega)]
   ·rw[show (i+1).toNat=i.toNat+1 by omega];exact Q4 hx ha (by simpa using hb)
 ·rw[dL1] at hi;refine Juk (Jun ?_);show [dB true]=_;rw[Ju4 (by omega)] at ha;simp only[JK,h,ha];simp
def Frm.fit (f:Frm):Prop:=f.c.length≤2000000∧f.d.length≤2000000
theorem WJ (f:Frm) (hf:Frm.fit f):Ev L f_k9 f.cells [dB f.small]:=by
 refine JuV (vs:=[.l (dL f.c),.l (dL f.d),.i f.k]) L_k9 rfl ?_;refine JuM (args:=[.s (dL f.c),dI 3,dI 2]) rfl rfl (Xx f.c 3 2 hf.1 (by omega) (by omega)) rfl ?_;refine JuU (JK 3 2 f.c) rfl (fun h=>?_) (fun h=>Jun ?_)
 ·refine JuM (args:=[.s (dL f.d),dI 2,dI 2]) rfl rfl (Xx f.d 2 2 hf.2 (by omega) (by omega)) rfl ?_;refine JuU (JK 2 2 f.d) rfl (fun h2=>?_) (fun h2=>Jun ?_)
  ·refine JuM (args:=[dI f.k,dI (-20),dI 20]) rfl rfl (JT _ _ _) rfl ?_;refine Jun ?_;show [dB (inB f.k (-20) 20)]=_;simp[Frm.small,h,h2]
  ·show [dB false]=_;simp[Frm.small,h,h2]
 ·show [dB false]=_;simp[Frm.small,h]
theorem Ji4 (f:Frm) (hf:Frm.fit f):Ev L f_kx f.cells [dB f.ok]:=by
 refine JuV (vs:=[.l (dL f.c),.l (dL f.d),.i f.k]) L_kx rfl ?_;refine JuM (args:=[.s (dL f.c),dI 3,dI 10000000]) rfl rfl (Xx f.c 3 10000000 hf.1 (by omega) (by omega)) rfl ?_;refine JuU (JK 3 10000000 f.c) rfl (fun h=>?_) (fun h=>Jun ?_)
 ·refine JuM (args:=[.s (dL f.d),dI 2,dI 10000000]) rfl rfl (Xx f.d 2 10000000 hf.2 (by omega) (by omega)) rfl ?_;refine JuU (JK 2 10000000 f.d) rfl (fun h2=>?_) (fun h2=>Jun ?_)
  ·refine JuM (args:=[dI f.k,dI (-10000000),dI 10000000]) rfl rfl (JT _ _ _) rfl ?_;refine Jun ?_;show [dB (inB f.k (-10000000) 10000000)]=_;simp[Frm.ok,h,h2]
  ·show [dB false]=_;simp[Frm.ok,h,h2]
 ·show [dB false]=_;simp[Frm.ok,h]
theorem Jne (l:Jg) (hf:Frm.fit l.f):Ev L f_ka l.cells [dB l.ok]:=by
 refine JuV (vs:=[.i l.kind,.i l.pot,.i l.skip,.l (dL l.f.c),.l (dL l.f.d),.i l.f.k]) L_ka rfl ?_;refine JuB (l.kind=1) rfl (fun h1=>?_) (fun h1=>?_)
 ·refine JuB (l.pot=0) rfl (fun h2=>?_) (fun h2=>Jun ?_)
  ·refine JuM (args:=[dI l.skip,dI 1,dI 6]) rfl rfl (JT _ _ _) rfl ?_;refine JuU (inB l.skip 1 6) rfl (fun h3=>?_) (fun h3=>Jun ?_)
   ·refine JuM (args:=l.f.cells) rfl rfl (WJ l.f hf) rfl (Jun ?_);show [dB l.f.small]=_;simp[Jg.ok,h1,h2,h3]
   ·show [dB false]=_;simp[Jg.ok,h1,h2,h3]
  ·show [dB false]=_;simp[Jg.ok,h1,h2]
 refine JuB (l.kind=2) rfl (fun h2=>?_) (fun h2=>?_)
 ·refine JuM (args:=[dI l.pot,dI 0,dI 2]) rfl rfl (JT _ _ _) rfl ?_;refine JuU (inB l.pot 0 2) rfl (fun h3=>?_) (fun h3=>Jun ?_)
  ·refine JuB (l.skip=0) rfl (fun h4=>?_) (fun h4=>Jun ?_)
   ·refine JuM (args:=l.f.cells) rfl rfl (WJ l.f hf) rfl (Jun ?_);show [dB l.f.small]=_;simp[Jg.ok,h2,h3,h4]
   ·show [dB false]=_;simp[Jg.ok,h2,h3,h4]
  ·show [dB false]=_;simp[Jg.ok,h2,h3]
 refine JuB (l.kind=3) rfl (fun h3=>?_) (fun h3=>?_)
 ·refine JuB (l.pot=0) rfl (fun h4=>?_) (fun h4=>Jun ?_)
  ·refine JuB (l.skip=0) rfl (fun h5=>?_) (fun h5=>Jun ?_)
   ·refine JuM (args:=l.f.cells) rfl rfl (WJ l.f hf) rfl (Jun ?_);show [dB l.f.small]=_;simp[Jg.ok,h3,h4,h5]
   ·show [dB false]=_;simp[Jg.ok,h3,h4,h5]
  ·show [dB false]=_;simp[Jg.ok,h3,h4]
 refine JuB (l.kind=4) rfl (fun h4=>?_) (fun h4=>Jun ?_)
 ·refine JuB (l.pot=0) rfl (fun h5=>?_) (fun h5=>Jun ?_)
  ·refine JuB (l.skip=0) rfl (fun h6=>?_) (fun h6=>Jun ?_)
   ·have hw:i64.wrap (((dL l.f.c).length:Int)+(dL l.f.d).length)=l.f.c.length+l.f.d.length:=by
     rw[dL1,dL1];have:=hf.1;have:=hf.2;exact w64 (by omega) (by omega)
    refine JuB (((l.f.c.length:Int)+l.f.d.length)=0) ?_ (fun h7=>Jun ?_) (fun h7=>Jun ?_)
    ·show decide (i64.wrap (((dL l.f.c).length:Int)+(dL l.f.d).length)=0)=_;rw[hw]
    ·show [dB (decide (l.f.k=0))]=_;simp only[Jg.ok,h4,h5,h6,h7];simp
    ·show [dB false]=_;simp only[Jg.ok,h4,h5,h6,h7];simp
   ·show [dB false]=_;simp[Jg.ok,h4,h5,h6]
  ·show [dB false]=_;simp[Jg.ok,h4,h5]
 ·show [dB false]=_;simp[Jg.ok,h1,h2,h3,h4]
def Kt (a:List Jg):Prop:=a.length≤2000000∧∀l∈a,Frm.fit l.f
theorem K2 {a:List Jg} {i:Int} (h0:0≤i) (h1:i<a.length) : ∃ x,a[i.toNat]? = some x∧(Jl a)[i.toNat]? = some x.g:=JlE h0 h1
theorem JaQ (a:List Jg) (ha:Kt a):Ev L f_kb [.s (Jl a)] [dB (Qo a)]:=by
 have hlen:=ha.1;refine JuV (vs:=[.l (Jl a)]) L_kb rfl ?_;refine JuQ (fun k vs=>∃ i:Int,vs=[.i (Yk (a.take i.toNat)),.i i]∧0≤i∧i≤a.length∧(k:Int)=a.length-i∧(a.take i.toNat).all Jg.ok=true) rfl a.length ⟨0,rfl,by omega,by omega,by omega,by simp⟩ ?_;rintro k _ ⟨i,rfl,i0,i1,hk,hal⟩;have htl:Yk (a.take i.toNat)≤a.length:=Nat.le_trans List.countP_le_length (by simp;omega);refine JuB (i<((Jl a).length:Int)) rfl (fun hi=>?_) (fun hi=>?_)
 ·rw[JG] at hi;obtain⟨x,hx,hd⟩:=K2 i0 hi;have hfx:=ha.2 x (Ju7 hx);refine Juz (ds:=Jl a) i rfl rfl rfl i0 hd rfl ?_;refine JuM (args:=x.cells) rfl rfl (Jne x hfx) rfl ?_;refine JuB (x.ok=false) ?_ (fun hb=>?_) (fun hb=>?_)
  ·show (!x.ok)=_;cases x.ok <;> rfl
  ·refine Juk (Jun ?_);show [dB false]=_;simp[Qo,Yw hx hb]
  ·have hb:x.ok=true:=by simpa using hb
   refine Juz (ds:=Jl a) i rfl rfl rfl i0 hd rfl ?_;have ht:Yk (a.take (i+1).toNat)=Yk (a.take i.toNat)+if x.kind=1 then 1 else 0:=by
    rw[show (i+1).toNat=i.toNat+1 by omega,tS1 hx];simp[Yk,List.countP_append,List.countP_cons]
   have hal':(a.take (i+1).toNat).all Jg.ok=true:=by
    rw[show (i+1).toNat=i.toNat+1 by omega];exact Q4 hx hal hb
   refine JuB (x.kind=1) rfl (fun h1=>?_) (fun h1=>?_)
   ·refine JuC (vs:=[.i (Yk (a.take (i+1).toNat)),.i (i+1)]) ?_ ⟨k-1,by omega,i+1,rfl,by omega,by omega,by omega,hal'⟩;show [V.i (i64.wrap ((Yk (a.take i.toNat):Int)+1)),V.i (i64.wrap (i+1))]=_;rw[w64 (n:=i+1) (by omega) (by omega),w64 (by omega) (by omega),ht,if_pos h1];rfl
   ·refine JuC (vs:=[.i (Yk (a.take (i+1).toNat)),.i (i+1)]) ?_ ⟨k-1,by omega,i+1,rfl,by omega,by omega,by omega,hal'⟩;show [V.i (Yk (a.take i.toNat):Int),V.i (i64.wrap (i+1))]=_;rw[w64 (n:=i+1) (by omega) (by omega),ht,if_neg h1];rfl
 ·rw[JG] at hi;rw[Ju4 (by omega)] at hal htl ⊢;refine Juk ?_;refine JuB (((Jl a).length:Int)≤6) rfl (fun h6=>Jun ?_) (fun h6=>Jun ?_)
  ·rw[JG] at h6;show [dB (decide ((Yk a:Int)≤3))]=_;simp only[Qo,hal,h6];simp
  ·rw[JG] at h6;show [dB false]=_;simp only[Qo,h6];simp
/- What draws of forms,lines,acts come to. -/
theorem X1:Ev L f_k2 [] Frm.zero.cells:=JuV (vs:=[]) L_k2 rfl (Jun rfl)
theorem ZR (a b k:Int):Ev L f_k3 [dI a,dI b,dI k] (Frm.cells ⟨[0,0,0],[a,b],k⟩):=by
 refine JuV (vs:=[.i a,.i b,.i k]) L_k3 rfl ?_;refine JuM (args:=[]) rfl rfl X1 rfl ?_;refine JuE ((0:Int)<2) rfl (by omega) ?_;refine Juz (ds:=dL [0,0]) 0 rfl rfl rfl (by omega) rfl rfl ?_;refine JuE ((1:Int)<2) rfl (by omega) ?_;refine Juz (ds:=dL [a,0]) 1 rfl rfl rfl (by omega) rfl rfl ?_;exact Jun rfl
theorem Zi (f:Frm) (v n:Int) (h0:0≤v) (h1:v<f.c.length):Ev L f_k4 [.s (dL f.c),.s (dL f.d),dI f.k,dI v,dI n] [dI f.k,.s (dL (f.c.set v.toNat n)),.s (dL f.d)]:=by
 refine JuV (vs:=[.l (dL f.c),.l (dL f.d),.i f.k,.i v,.i n]) L_k4 rfl ?_;refine JuE (0≤v) rfl h0 ?_;refine JuE (v<((dL f.c).length:Int)) rfl (by rw[dL1];exact h1) ?_;refine Juz (ds:=dL f.c) v rfl rfl rfl h0 (J1 h0 h1) rfl ?_;refine Jun ?_;show [dI f.k,.s ((dL f.c).set v.toNat (dI n)),.s (dL f.d)]=_;rw[QC]
theorem Xg {bs:List Int} {p:Int} (hr:Rdr bs p) (hf:p≤999999990000) :
  ∃ (f:Frm) (q:Int),Ev L f_k5 [.s (Ja bs),dI p] (f.cells++[.s (Ja bs),dI q])∧p≤q∧q≤p+10∧f.c.length=3∧f.d.length=2:=by
 have key : ∃ ds,Ev L f_k5 [.s (Ja bs),dI p] ds∧∃ (f:Frm) (q:Int),ds=f.cells++[.s (Ja bs),dI q]∧p≤q∧q≤p+10∧f.c.length=3∧f.d.length=2:=by
  refine JuY (vs:=[.l (Ja bs),.i p]) L_k5 rfl ?_;refine JuM (args:=[]) rfl rfl X1 rfl ?_;refine JuQ (fun m vs=>∃ (c:List Int) (i:Int),vs=[.l (dL c),.i i,.i (p+i),.l (Ja bs)]∧c.length=3∧0≤i∧i≤3∧(m:Int)=3-i) rfl 3 ⟨[0,0,0],0,by simp[den,Jo,dL,V.int,Frm.zero],rfl,by omega,by omega,by omega⟩ ?_;rintro m _ ⟨c,i,rfl,hc,i0,i3,hm⟩;refine JuB (i<3) rfl (fun h=>?_) (fun h=>?_)
  ·refine Je 6 (hr.go (q:=p+i) (by omega) (by omega)) (by omega) (by omega) rfl rfl fun v hv0 hv1=>?_;refine JuE (0≤v) rfl hv0 ?_;refine JuE (v<6) rfl hv1 ?_;refine Juz (ds:=dL [0,0,0,1,-1,2]) v rfl rfl rfl hv0 (J1 hv0 hv1) rfl ?_;generalize ([0,0,0,1,-1,2]:List Int).getD v.toNat 0=x at *;refine JuE (0≤i) rfl i0 ?_;refine JuE (i<((dL c).length:Int)) rfl (by rw[dL1];omega) ?_;refine Juz (ds:=dL c) i rfl rfl rfl i0 (J1 i0 (by omega)) rfl ?_;refine JuC (vs:=[.l (dL (c.set i.toNat x)),.i (i+1),.i (p+(i+1)),.l (Ja bs)]) ?_ ⟨m-1,by omega,c.set i.toNat x,i+1,rfl,by simp[hc],by omega,by omega,by omega⟩;show [V.l ((dL c).set i.toNat (dI x)),V.i (i64.wrap (i+1)),V.i (p+i+1),V.l (Ja bs)]=_;rw[QC,w64 (by omega) (by omega),Int.add_assoc]
  refine Juk ?_;have hi:i=3:=by omega
  subst hi;refine JuQ (fun m vs=>∃ (d:List Int) (j:Int),vs=[.l (dL d),.i j,.i (p+3+j),.l (Ja bs)]∧d.length=2∧0≤j∧j≤2∧(m:Int)=2-j) rfl 2 ⟨[0,0],0,by simp[den,Jo,dL,V.int,V.lst,Frm.zero],rfl,by omega,by omega,by omega⟩ ?_;rintro m _ ⟨d,j,rfl,hd,j0,j2,hm⟩;refine JuB (j<2) rfl (fun h=>?_) (fun h=>?_)
  ·refine Je 5 (hr.go (q:=p+3+j) (by omega) (by omega)) (by omega) (by omega) rfl rfl fun v hv0 hv1=>?_;refine JuE (0≤v) rfl hv0 ?_;refine JuE (v<5) rfl hv1 ?_;refine Juz (ds:=dL [0,0,1,-1,2]) v rfl rfl rfl hv0 (J1 hv0 hv1) rfl ?_;generalize ([0,0,1,-1,2]:List Int).getD v.toNat 0=x at *;refine JuE (0≤j) rfl j0 ?_;refine JuE (j<((dL d).length:Int)) rfl (by rw[dL1];omega) ?_;refine Juz (ds:=dL d) j rfl rfl rfl j0 (J1 j0 (by omega)) rfl ?_;refine JuC (vs:=[.l (dL (d.set j.toNat x)),.i (j+1),.i (p+3+(j+1)),.l (Ja bs)]) ?_ ⟨m-1,by omega,d.set j.toNat x,j+1,rfl,by simp[hd],by omega,by omega,by omega⟩;show [V.l ((dL d).set j.toNat (dI x)),V.i (i64.wrap (j+1)),V.i (p+3+j+1),V.l (Ja bs)]=_;rw[QC,w64 (by omega) (by omega),Int.add_assoc (p+3)]
  refine Juk ?_;refine Je 8 (hr.go (q:=p+3+j) (by omega) (by omega)) (by omega) (by omega) rfl rfl fun v hv0 hv1=>?_;refine JuE (0≤v) rfl hv0 ?_;refine JuE (v<8) rfl hv1 ?_;refine Juz (ds:=dL [0,0,1,-1,5,-5,20,-20]) v rfl rfl rfl hv0 (J1 hv0 hv1) rfl ?_;exact Jun ⟨⟨c,d,_⟩,p+3+j+1,rfl,by omega,by omega,hc,hd⟩
 obtain⟨ds,e1,f,q,rfl,e2⟩:=key;exact⟨f,q,e1,e2⟩
def KR (l:Jg):Prop:=l.f.c.length≤3∧l.f.d.length≤2
theorem JjC {bs:List Int} {p:Int} (hr:Rdr bs p) (hf:p≤999999980000) :
  ∃ (l:Jg) (q:Int),Ev L f_k6 [.s (Ja bs),dI p] (l.cells++[.s (Ja bs),dI q])∧p≤q∧q≤p+20∧KR l:=by
 have key : ∃ ds,Ev L f_k6 [.s (Ja bs),dI p] ds∧∃ (l:Jg) (q:Int),ds=l.cells++[.s (Ja bs),dI q]∧p≤q∧q≤p+20∧KR l:=by
  refine JuY (vs:=[.l (Ja bs),.i p]) L_k6 rfl ?_;refine Je 7 hr (by omega) (by omega) rfl rfl fun v hv0 hv1=>?_;have hr1:Rdr bs (p+1):=hr.go (by omega) (by omega);refine JuB (v=0) rfl (fun h=>?_) (fun h0=>?_)
  ·refine Je 3 hr1 (by omega) (by omega) rfl rfl fun u hu0 hu1=>?_;obtain⟨f,q,e,q1,q2,f1,f2⟩:=Xg (hr1.go (q:=p+1+1) (by omega) (by omega)) (by omega);refine JuM (args:=[.s (Ja bs),dI (p+1+1)]) rfl rfl e rfl ?_;exact Jun ⟨⟨1,0,i64.wrap (1+u),f⟩,q,rfl,by omega,by omega,by simp[KR,f1,f2]⟩
  refine JuB (v=1) rfl (fun h=>?_) (fun h1=>?_)
  ·refine Je 3 hr1 (by omega) (by omega) rfl rfl fun u hu0 hu1=>?_;obtain⟨f,q,e,q1,q2,f1,f2⟩:=Xg (hr1.go (q:=p+1+1) (by omega) (by omega)) (by omega);refine JuM (args:=[.s (Ja bs),dI (p+1+1)]) rfl rfl e rfl ?_;exact Jun ⟨⟨1,0,i64.wrap (1+u),f⟩,q,rfl,by omega,by omega,by simp[KR,f1,f2]⟩
  refine JuB (v=2) rfl (fun h=>?_) (fun h2=>?_)
  ·obtain⟨f,q,e,q1,q2,f1,f2⟩:=Xg hr1 (by omega);refine JuM (args:=[.s (Ja bs),dI (p+1)]) rfl rfl e rfl ?_;refine Je 3 (hr.go (q:=q) (by omega) (by omega)) (by omega) (by omega) rfl rfl fun u hu0 hu1=>?_;refine JuB (0<u) rfl (fun hu=>?_) (fun hu=>?_)
   ·refine Je 3 (hr.go (q:=q+1) (by omega) (by omega)) (by omega) (by omega) rfl rfl fun w hw0 hw1=>?_;exact Jun ⟨⟨2,w,0,⟨[0,0,0],f.d,f.k⟩⟩,q+1+1,rfl,by omega,by omega,by simp[KR,f1,f2]⟩
   ·refine Je 3 (hr.go (q:=q+1) (by omega) (by omega)) (by omega) (by omega) rfl rfl fun w hw0 hw1=>?_;exact Jun ⟨⟨2,w,0,f⟩,q+1+1,rfl,by omega,by omega,by simp[KR,f1,f2]⟩
  refine JuB (v=3) rfl (fun h=>?_) (fun h3=>?_)
  ·obtain⟨f,q,e,q1,q2,f1,f2⟩:=Xg hr1 (by omega);refine JuM (args:=[.s (Ja bs),dI (p+1)]) rfl rfl e rfl ?_;refine Je 3 (hr.go (q:=q) (by omega) (by omega)) (by omega) (by omega) rfl rfl fun u hu0 hu1=>?_;refine JuB (0<u) rfl (fun hu=>?_) (fun hu=>?_)
   ·refine Je 3 (hr.go (q:=q+1) (by omega) (by omega)) (by omega) (by omega) rfl rfl fun w hw0 hw1=>?_;exact Jun ⟨⟨2,w,0,⟨[0,0,0],f.d,f.k⟩⟩,q+1+1,rfl,by omega,by omega,by simp[KR,f1,f2]⟩
   ·refine Je 3 (hr.go (q:=q+1) (by omega) (by omega)) (by omega) (by omega) rfl rfl fun w hw0 hw1=>?_;exact Jun ⟨⟨2,w,0,f⟩,q+1+1,rfl,by omega,by omega,by simp[KR,f1,f2]⟩
  refine JuB (v=4) rfl (fun h=>?_) (fun h4=>?_)
  ·obtain⟨f,q,e,q1,q2,f1,f2⟩:=Xg hr1 (by omega);refine JuM (args:=[.s (Ja bs),dI (p+1)]) rfl rfl e rfl ?_;refine Je 3 (hr.go (q:=q) (by omega) (by omega)) (by omega) (by omega) rfl rfl fun u hu0 hu1=>?_;refine JuB (0<u) rfl (fun hu=>?_) (fun hu=>?_)
   ·refine Je 3 (hr.go (q:=q+1) (by omega) (by omega)) (by omega) (by omega) rfl rfl fun w hw0 hw1=>?_;exact Jun ⟨⟨2,w,0,⟨[0,0,0],f.d,f.k⟩⟩,q+1+1,rfl,by omega,by omega,by simp[KR,f1,f2]⟩
   ·refine Je 3 (hr.go (q:=q+1) (by omega) (by omega)) (by omega) (by omega) rfl rfl fun w hw0 hw1=>?_;exact Jun ⟨⟨2,w,0,f⟩,q+1+1,rfl,by omega,by omega,by simp[KR,f1,f2]⟩
  refine JuB (v=5) rfl (fun h=>?_) (fun h5=>?_)
  ·obtain⟨f,q,e,q1,q2,f1,f2⟩:=Xg hr1 (by omega);refine JuM (args:=[.s (Ja bs),dI (p+1)]) rfl rfl e rfl ?_;exact Jun ⟨⟨3,0,0,f⟩,q,rfl,by omega,by omega,by simp[KR,f1,f2]⟩
  exact Jun ⟨⟨4,0,0,⟨[],[],0⟩⟩,p+1,rfl,by omega,by omega,by simp[KR]⟩
 obtain⟨ds,e1,l,q,rfl,e2⟩:=key;exact⟨l,q,e1,e2⟩
/- What draws of acts come to. -/
theorem JoU (a:List Jg):Yf 6 (Jl a)=true:=by cases a <;> rfl
theorem Ul (a:List Jg) (l:Jg):Jl a++[l.g]=Jl (a++[l]):=by simp[Jl]
def Jb8 (a:List Jg):Prop:=a.length≤5∧(∀l∈a,KR l)∧Qo a=true
theorem Jb8.fit {a:List Jg} (h:Jb8 a):Kt a:=⟨by have:=h.1;omega,fun l hl=>⟨by have:=(h.2.1 l hl).1;omega,by have:=(h.2.1 l hl).2;omega⟩⟩
theorem JfA {bs:List Int} {p:Int} (hr:Rdr bs p) (hf:p≤999999970000) :
  ∃ (a:List Jg) (q:Int),Ev L f_kc [.s (Ja bs),dI p] [.s (Jl a),.s (Ja bs),dI q]∧p≤q∧q≤p+200∧Jb8 a:=by
 have key : ∃ ds,Ev L f_kc [.s (Ja bs),dI p] ds∧∃ (a:List Jg) (q:Int),ds=[.s (Jl a),.s (Ja bs),dI q]∧p≤q∧q≤p+200∧Jb8 a:=by
  refine JuY (vs:=[.l (Ja bs),.i p]) L_kc rfl ?_;refine Je 2 hr (by omega) (by omega) rfl rfl fun v hv0 hv1=>?_;refine Je 8 (hr.go (q:=p+1) (by omega) (by omega)) (by omega) (by omega) rfl rfl fun u hu0 hu1=>?_;have hw:v<(([0,0,0]:List Int).length:Int):=by simp;omega
  have hv01:v=0∨v=1:=by omega
  have n1:=ZR (-1) 0 0;have n2:=ZR 1 0 0;have n3:=ZR 1 0 (-9);refine JuB (u=0) rfl (fun h=>?_) (fun h0=>?_)
  ·refine JuM (args:=[dI (-1),dI 0,dI 0]) rfl rfl n1 rfl ?_;refine JuM (args:=[.s (dL [0,0,0]),.s (dL [-1,0]),dI 0,dI v,dI 1]) rfl rfl (Zi ⟨[0,0,0],[-1,0],0⟩ v 1 hv0 hw) rfl ?_;refine JuM (args:=[dI (-1),dI 0,dI 0]) rfl rfl n1 rfl ?_;refine JuM (args:=[dI 1,dI 0,dI 0]) rfl rfl n2 rfl ?_;refine JuM (args:=[dI 1,dI 0,dI (-9)]) rfl rfl n3 rfl ?_;exact Jun ⟨[⟨1,0,2,⟨[0,0,0].set v.toNat 1,[-1,0],0⟩⟩,⟨2,v,0,⟨[0,0,0],[-1,0],0⟩⟩,⟨3,0,0,⟨[0,0,0],[1,0],0⟩⟩,⟨1,0,1,⟨[0,0,0],[1,0],-9⟩⟩,⟨4,0,0,⟨[],[],0⟩⟩],p+1+1,rfl,by omega,by omega,by simp,by simp[KR],by rcases hv01 with rfl | rfl <;> decide⟩
  refine JuB (u=1) rfl (fun h=>?_) (fun h1=>?_)
  ·refine JuM (args:=[dI (-1),dI 0,dI 0]) rfl rfl n1 rfl ?_;refine JuM (args:=[.s (dL [0,0,0]),.s (dL [-1,0]),dI 0,dI v,dI 1]) rfl rfl (Zi ⟨[0,0,0],[-1,0],0⟩ v 1 hv0 hw) rfl ?_;refine JuM (args:=[dI (-1),dI 0,dI 0]) rfl rfl n1 rfl ?_;refine JuM (args:=[dI 1,dI 0,dI 0]) rfl rfl n2 rfl ?_;refine JuM (args:=[dI 1,dI 0,dI (-9)]) rfl rfl n3 rfl ?_;exact Jun ⟨[⟨1,0,2,⟨[0,0,0].set v.toNat 1,[-1,0],0⟩⟩,⟨2,v,0,⟨[0,0,0],[-1,0],0⟩⟩,⟨3,0,0,⟨[0,0,0],[1,0],0⟩⟩,⟨1,0,1,⟨[0,0,0],[1,0],-9⟩⟩,⟨4,0,0,⟨[],[],0⟩⟩],p+1+1,rfl,by omega,by omega,by simp,by simp[KR],by rcases hv01 with rfl | rfl <;> decide⟩
  refine JuB (u=2) rfl (fun h=>?_) (fun h2=>?_)
  ·refine JuM (args:=[dI 1,dI 0,dI 0]) rfl rfl n2 rfl ?_;exact Jun ⟨[⟨2,v,0,⟨[0,0,0],[1,0],0⟩⟩],p+1+1,rfl,by omega,by omega,by simp,by simp[KR],by rcases hv01 with rfl | rfl <;> decide⟩
  refine JuB (u=3) rfl (fun h=>?_) (fun h3=>?_)
  ·refine JuM (args:=[dI (-1),dI 0,dI 0]) rfl rfl n1 rfl ?_;refine JuM (args:=[.s (dL [0,0,0]),.s (dL [-1,0]),dI 0,dI v,dI 1]) rfl rfl (Zi ⟨[0,0,0],[-1,0],0⟩ v 1 hv0 hw) rfl ?_;refine JuM (args:=[dI (-1),dI 0,dI 0]) rfl rfl n1 rfl ?_;refine JuM (args:=[dI 1,dI 0,dI 0]) rfl rfl n2 rfl ?_;exact Jun ⟨[⟨1,0,2,⟨[0,0,0].set v.toNat 1,[-1,0],0⟩⟩,⟨2,v,0,⟨[0,0,0],[-1,0],0⟩⟩,⟨2,i64.wrap (1-v),0,⟨[0,0,0],[1,0],0⟩⟩],p+1+1,rfl,by omega,by omega,by simp,by simp[KR],by rcases hv01 with rfl | rfl <;> decide⟩
  refine JuB (u=4) rfl (fun h=>?_) (fun h4=>?_)
  ·refine JuM (args:=[dI 0,dI 0,dI 0]) rfl rfl (ZR 0 0 0) rfl ?_;refine JuM (args:=[.s (dL [0,0,0]),.s (dL [0,0]),dI 0,dI 2,dI 1]) rfl rfl (Zi ⟨[0,0,0],[0,0],0⟩ 2 1 (by omega) (by simp)) rfl ?_;exact Jun ⟨[⟨3,0,0,⟨[0,0,0].set 2 1,[0,0],0⟩⟩],p+1+1,rfl,by omega,by omega,by simp,by simp[KR],by rcases hv01 with rfl | rfl <;> decide⟩
  refine JuB (u=5) rfl (fun h=>?_) (fun h5=>?_)
  ·refine JuM (args:=[dI 0,dI 1,dI 5]) rfl rfl (ZR 0 1 5) rfl ?_;refine JuM (args:=[.s (dL [0,0,0]),.s (dL [0,1]),dI 5,dI 0,dI 1]) rfl rfl (Zi ⟨[0,0,0],[0,1],5⟩ 0 1 (by omega) (by simp)) rfl ?_;refine JuM (args:=[.s (dL [1,0,0]),.s (dL [0,1]),dI 5,dI 1,dI (-1)]) rfl rfl (Zi ⟨[1,0,0],[0,1],5⟩ 1 (-1) (by omega) (by simp)) rfl ?_;refine JuM (args:=[dI 0,dI 0,dI 1]) rfl rfl (ZR 0 0 1) rfl ?_;exact Jun ⟨[⟨1,0,1,⟨[1,-1,0],[0,1],5⟩⟩,⟨2,2,0,⟨[0,0,0],[0,0],1⟩⟩],p+1+1,rfl,by omega,by omega,by simp,by simp[KR],by rcases hv01 with rfl | rfl <;> decide⟩
  refine Je 5 (hr.go (q:=p+1+1) (by omega) (by omega)) (by omega) (by omega) rfl rfl fun w hw0 hw1=>?_;refine JuQ (fun m vs=>∃ (a:List Jg) (k o:Int),vs=[.l (Jl a),.i k,.i o,.l (Ja bs)]∧p+3≤o∧o+20*k≤p+3+100∧0≤k∧k≤5∧(m:Int)=k∧(a.length:Int)+k≤5∧Qo a=true∧∀l∈a,KR l) rfl (1+w).toNat
   ⟨[],1+w,p+1+1+1,?_,by omega,by omega,by omega,by omega,by omega,by simp;omega,rfl,fun x hx=>by simp at hx⟩ ?_
  ·show [V.l [],V.i (i64.wrap (1+w)),V.i (p+1+1+1),V.l (Ja bs)]=_;rw[w64 (by omega) (by omega)];rfl
  rintro m _ ⟨a,k,o,rfl,o1,o2,k0,k5,hm,hl,hak,hs⟩;refine JuB (0<k) rfl (fun h=>?_) (fun h=>Juk (Jun ⟨a,o,rfl,by omega,by omega,by omega,hs,hak⟩));obtain⟨x,q,ex,q1,q2,hx⟩:=JjC (hr.go (q:=o) (by omega) (by omega)) (by omega);refine JuM (args:=[.s (Ja bs),dI o]) rfl rfl ex rfl ?_;have hs' :∀l∈a++[x],KR l:=by
   intro l hl';rcases Ju5.1 hl' with h' | h'
   ·exact hs l h'
   ·simp at h';subst h';exact hx
  have hfit:Kt (a++[x]):=⟨by simp;omega,fun l hl'=>⟨by have:=(hs' l hl').1;omega,by have:=(hs' l hl').2;omega⟩⟩;refine Jus (Jl a) rfl (by rw[JG];omega) ?_;refine JuT (JoU a) ?_;refine Jus (Jl a) rfl (by rw[JG];omega) ?_;refine Jus (Jl a++[x.g]) rfl (by rw[Ul,JG];simp;omega) ?_;refine JuM (args:=[.s (Jl (a++[x]))]) rfl ?_ (JaQ (a++[x]) hfit) rfl ?_
  ·show [D.s (([]++Jl a)++[x.g])]=_;rw[List.nil_append,Ul]
  refine JuU (Qo (a++[x])) rfl (fun hok=>?_) (fun hok=>?_)
  ·refine Jus (Jl a++[x.g]) rfl (by rw[Ul,JG];simp;omega) ?_;refine JuC (vs:=[.l (Jl (a++[x])),.i (k-1),.i q,.l (Ja bs)]) ?_ ⟨m-1,by omega,a++[x],k-1,q,rfl,by omega,by omega,by omega,by omega,by omega,by simp;omega,hok,hs'⟩;show [V.l (Jl a++[x.g]),V.i (i64.wrap (k-1)),V.i q,V.l (Ja bs)]=_;rw[Ul,w64 (by omega) (by omega)]
  ·refine JuC (vs:=[.l (Jl a),.i (k-1),.i q,.l (Ja bs)]) ?_ ⟨m-1,by omega,a,k-1,q,rfl,by omega,by omega,by omega,by omega,by omega,by omega,hak,hs⟩;show [V.l (Jl a),V.i (i64.wrap (k-1)),V.i q,V.l (Ja bs)]=_;rw[w64 (by omega) (by omega)]
 obtain⟨ds,e1,a,q,rfl,e2⟩:=key;exact⟨a,q,e1,e2⟩
theorem Jad (as:List (List Jg)) (a:List Jg):Jd as++[.s (Jl a)]=Jd (as++[a]):=by simp[Jd]
def Jgx (as:List (List Jg)):Prop:=as.length≤4∧∀a∈as,Jb8 a
theorem Jdn {bs:List Int} {p:Int} (hr:Rdr bs p) (hf:p≤999999960000) :
  ∃ (as:List (List Jg)) (q:Int),Ev L f_kd [.s (Ja bs),dI p] [.s (Jd as),.s (Ja bs),dI q]∧p≤q∧q≤p+1000∧Jgx as∧1≤as.length:=by
 have key : ∃ ds,Ev L f_kd [.s (Ja bs),dI p] ds∧∃ (as:List (List Jg)) (q:Int),ds=[.s (Jd as),.s (Ja bs),dI q]∧p≤q∧q≤p+1000∧Jgx as∧1≤as.length:=by
  refine JuY (vs:=[.l (Ja bs),.i p]) L_kd rfl ?_;refine Je 4 hr (by omega) (by omega) rfl rfl fun w hw0 hw1=>?_;refine JuQ (fun m vs=>∃ (as:List (List Jg)) (k o:Int),vs=[.l (Jd as),.i k,.i o,.l (Ja bs)]∧p+1≤o∧o+200*k≤p+1+800∧0≤k∧k≤4∧(m:Int)=k∧(as.length:Int)+k=1+w∧∀a∈as,Jb8 a) rfl (1+w).toNat
   ⟨[],1+w,p+1,?_,by omega,by omega,by omega,by omega,by omega,by simp,fun x hx=>by simp at hx⟩ ?_
  ·show [V.l [],V.i (i64.wrap (1+w)),V.i (p+1),V.l (Ja bs)]=_;rw[w64 (by omega) (by omega)];rfl
  rintro m _ ⟨as,k,o,rfl,o1,o2,k0,k5,hm,hl,hs⟩;refine JuB (0<k) rfl (fun h=>?_) (fun h=>Juk (Jun ⟨as,o,rfl,by omega,by omega,⟨by omega,hs⟩,by omega⟩));obtain⟨x,q,ex,q1,q2,hx⟩:=JfA (hr.go (q:=o) (by omega) (by omega)) (by omega);refine JuM (args:=[.s (Ja bs),dI o]) rfl rfl ex rfl ?_;refine Jus (Jd as++[.s (Jl x)]) rfl (by rw[Jad,JR];simp;omega) ?_;refine JuC (vs:=[.l (Jd (as++[x])),.i (k-1),.i q,.l (Ja bs)]) ?_ ⟨m-1,by omega,as++[x],k-1,q,rfl,by omega,by omega,by omega,by omega,by omega,by simp;omega,?_⟩
  ·show [V.l (Jd as++[.s (Jl x)]),V.i (i64.wrap (k-1)),V.i q,V.l (Ja bs)]=_;rw[Jad,w64 (by omega) (by omega)]
  ·intro a ha;rcases Ju5.1 ha with h' | h'
   ·exact hs a h'
   ·simp at h';subst h';exact hx
 obtain⟨ds,e1,a,q,rfl,e2⟩:=key;exact⟨a,q,e1,e2⟩
/- What sums of forms and the ways through an act come to: the reference's. -/
theorem V7 {x y n M N:Int} (hx : -M≤x∧x≤M) (hy : -M≤y∧y≤M) (hn : -N≤n∧n≤N) (hM:M≤1000000000) (hN:N≤1000000000):i64.wrap (x+i64.wrap (n*y))=x+n*y:=by
 have h:=KG (A:=1000000000) (B:=1000000000) (n:=n) (y:=y) (by omega) (by omega);rw[w64 (n:=n*y) (by omega) (by omega),w64 (by omega) (by omega)]
theorem VS {a b:Frm} {n M:Int} (ha:Std M a) (hb:Std M b) (hM:M≤1000000000) (hn : -1000000000≤n∧n≤1000000000) :
  Ev L f_kv (a.cells++b.cells++[dI n]) (JX a b n).cells:=by
 refine JuV (vs:=[.l (dL a.c),.l (dL a.d),.i a.k,.l (dL b.c),.l (dL b.d),.i b.k,.i n]) L_kv rfl ?_;refine JuM (args:=[]) rfl rfl X1 rfl ?_;have hc:=ha.c;have hc':=hb.c;have hd:=ha.d;have hd':=hb.d;have hS:(J5 a.c b.c n).length=3:=by rw[UT];omega
 have hT:(J5 a.d b.d n).length=2:=by rw[UT];omega
 refine JuQ (fun m vs=>∃ i:Nat,i≤3∧m=3-i∧vs=[.l (dL ((J5 a.c b.c n).take i++([0,0,0]:List Int).drop i)),.i i]) rfl 3 ⟨0,by omega,rfl,rfl⟩ ?_;rintro m _ ⟨i,hi,hm,rfl⟩;refine JuB ((i:Int)<3) rfl (fun h=>?_) (fun h=>?_)
 ·refine Juz (ds:=dL a.c) i rfl rfl rfl (by omega) (J1 (by omega) (by omega)) rfl ?_;refine Juz (ds:=dL b.c) i rfl rfl rfl (by omega) (J1 (by omega) (by omega)) rfl ?_;refine JuE ((0:Int)≤i) rfl (by omega) ?_;have hlen:((J5 a.c b.c n).take i++([0,0,0]:List Int).drop i).length=3:=by simp[hS];omega
  refine JuE ((i:Int)<((dL ((J5 a.c b.c n).take i++([0,0,0]:List Int).drop i)).length:Int)) rfl (by rw[dL1,hlen];omega) ?_;refine Juz (ds:=dL ((J5 a.c b.c n).take i++([0,0,0]:List Int).drop i)) i rfl rfl rfl (by omega) (J1 (by omega) (by omega)) rfl ?_;refine JuC (vs:=[.l (dL ((J5 a.c b.c n).take (i+1)++([0,0,0]:List Int).drop (i+1))),.i ((i+1:Nat):Int)]) ?_ ⟨m-1,by omega,i+1,by omega,by omega,rfl⟩;show [V.l ((dL ((J5 a.c b.c n).take i++([0,0,0]:List Int).drop i)).set (i:Int).toNat (dI (i64.wrap (a.c.getD (i:Int).toNat 0+i64.wrap (n*b.c.getD (i:Int).toNat 0))))),V.i (i64.wrap ((i:Int)+1))]=_;have hx:=XU ha.lc (k:=(i:Int).toNat) (by omega);have hy:=XU hb.lc (k:=(i:Int).toNat) (by omega);rw[V7 hx hy hn hM (by omega),QC,Int.toNat_natCast,fill (by rw[hS];rfl),w64 (by omega) (by omega)]
  ·rfl
  ·exact JiC (by omega) (by omega)
 refine Juk ?_;have hi3:i=3:=by omega
 subst hi3;rw[Ju4 (by omega),show ([0,0,0]:List Int).drop 3=[] from rfl,List.append_nil];refine JuQ (fun m vs=>∃ i:Nat,i≤2∧m=2-i∧vs=[.l (dL ((J5 a.d b.d n).take i++([0,0]:List Int).drop i)),.i i]) rfl 2 ⟨0,by omega,rfl,rfl⟩ ?_;rintro m _ ⟨i,hi,hm,rfl⟩;refine JuB ((i:Int)<2) rfl (fun h=>?_) (fun h=>?_)
 ·refine Juz (ds:=dL a.d) i rfl rfl rfl (by omega) (J1 (by omega) (by omega)) rfl ?_;refine Juz (ds:=dL b.d) i rfl rfl rfl (by omega) (J1 (by omega) (by omega)) rfl ?_;refine JuE ((0:Int)≤i) rfl (by omega) ?_;have hlen:((J5 a.d b.d n).take i++([0,0]:List Int).drop i).length=2:=by simp[hT];omega
  refine JuE ((i:Int)<((dL ((J5 a.d b.d n).take i++([0,0]:List Int).drop i)).length:Int)) rfl (by rw[dL1,hlen];omega) ?_;refine Juz (ds:=dL ((J5 a.d b.d n).take i++([0,0]:List Int).drop i)) i rfl rfl rfl (by omega) (J1 (by omega) (by omega)) rfl ?_;refine JuC (vs:=[.l (dL ((J5 a.d b.d n).take (i+1)++([0,0]:List Int).drop (i+1))),.i ((i+1:Nat):Int)]) ?_ ⟨m-1,by omega,i+1,by omega,by omega,rfl⟩;show [V.l ((dL ((J5 a.d b.d n).take i++([0,0]:List Int).drop i)).set (i:Int).toNat (dI (i64.wrap (a.d.getD (i:Int).toNat 0+i64.wrap (n*b.d.getD (i:Int).toNat 0))))),V.i (i64.wrap ((i:Int)+1))]=_;have hx:=XU ha.ld (k:=(i:Int).toNat) (by omega);have hy:=XU hb.ld (k:=(i:Int).toNat) (by omega);rw[V7 hx hy hn hM (by omega),QC,Int.toNat_natCast,fill (by rw[hT];rfl),w64 (by omega) (by omega)]
  ·rfl
  ·exact JiC (by omega) (by omega)
 refine Juk ?_;have hi2:i=2:=by omega
 subst hi2;rw[Ju4 (by omega),show ([0,0]:List Int).drop 2=[] from rfl,List.append_nil];refine Jun ?_;show [D.s (dL (J5 a.c b.c n)),.s (dL (J5 a.d b.d n)),dI (i64.wrap (a.k+i64.wrap (n*b.k)))]=_;rw[V7 ha.k hb.k hn hM (by omega)];rfl
theorem ZS (v:Int) (h0:0≤v) (h2:v≤2):Ev L f_ku [dI v] (JC v.toNat).cells:=by
 refine JuV (vs:=[.i v]) L_ku rfl ?_;refine JuM (args:=[dI v,dI 0,dI 2]) rfl rfl (JT v 0 2) rfl ?_;refine JuN (by show (!(inB v 0 2))=false;simp[inB,h0,h2]) ?_;refine JuM (args:=[]) rfl rfl X1 rfl ?_;refine JuE (0≤v) rfl h0 ?_;refine JuE (v<3) rfl (by omega) ?_;refine Juz (ds:=dL [0,0,0]) v rfl rfl rfl h0 (J1 h0 (by simp;omega)) rfl ?_;refine Jun ?_;show [D.s ((dL [0,0,0]).set v.toNat (dI 1)),.s (dL [0,0]),dI 0]=_;rw[QC];rfl
theorem YD {l:List Frm} {M:Int} (hl:l.length≤2000000) (hs :∀f∈l,Std M f) (h0:0≤M) (hM:M≤1000000000):Ev L f_kw [.s (dF l)] [.s (dF l)]:=by
 refine JuV (vs:=[.l (dF l)]) L_kw rfl ?_;refine JuQ (fun m vs=>∃ i:Int,0≤i∧i≤l.length∧(m:Int)=l.length-i∧vs=[.l (dF (l.take i.toNat)),.i i]) rfl l.length ⟨0,by omega,by omega,by omega,rfl⟩ ?_;rintro m _ ⟨i,i0,i1,hm,rfl⟩;refine JuB (i<((dF l).length:Int)) rfl (fun hi=>?_) (fun hi=>?_)
 ·rw[J8] at hi;refine JuM (args:=[]) rfl rfl X1 rfl ?_;obtain⟨x,hx,hd⟩:=Jbb i0 hi;have hsx:=hs x (Ju7 hx);refine Juz (ds:=dF l) i rfl rfl rfl i0 hd rfl ?_;have e:=VS (Xu.mono h0) hsx hM (n:=1) (by omega);rw[JfW hsx] at e;refine JuM (args:=Frm.zero.cells++x.cells++[dI 1]) rfl rfl e rfl ?_;refine Jus (dF (l.take i.toNat)++[x.g]) rfl (by rw[Xt,J8];simp;omega) ?_;refine JuC (vs:=[.l (dF (l.take (i+1).toNat)),.i (i+1)]) ?_ ⟨m-1,by omega,i+1,by omega,by omega,by omega,rfl⟩;show [V.l (dF (l.take i.toNat)++[x.g]),V.i (i64.wrap (i+1))]=_;rw[Xt,show (i+1).toNat=i.toNat+1 by omega,tS1 hx,w64 (by omega) (by omega)]
 ·rw[J8] at hi;refine Juk (Jun ?_);show [D.s (dF (l.take i.toNat))]=_;rw[Ju4 (by omega)]
theorem Jj2 {f:Frm} {M:Int} (hf:Std M f) (h0:0≤M) (hM:M≤100000000):Ev L f_kz f.cells (QY f).cells:=by
 refine JuV (vs:=[.l (dL f.c),.l (dL f.d),.i f.k]) L_kz rfl ?_;refine JuM (args:=[]) rfl rfl X1 rfl ?_;refine JuM (args:=Frm.zero.cells++f.cells++[dI (-1)]) rfl rfl (VS (Xu.mono h0) hf (by omega) (by omega)) rfl ?_;refine Jun ?_;have hk:=(Q5 Xu hf (n:=-1) (N:=1) (by omega)).k;show [D.s (dL (JX Frm.zero f (-1)).c),.s (dL (JX Frm.zero f (-1)).d),dI (i64.wrap ((JX Frm.zero f (-1)).k-1))]=_;rw[w64 (by omega) (by omega)];rfl
theorem JkA {f:Frm} {pots:List Frm} {M:Int} (hf:f.small=true) (hl:pots.length=3) (hp :∀p∈pots,Std M p) (h0:0≤M) (hM:M≤1000000) :
  Ev L f_ky (f.cells++[.s (dF pots)]) (Jt f pots).cells:=by
 obtain⟨f1,f2,f3,f4,f5⟩:=XO hf;have hfs:=Jf1 hf;refine JuV (vs:=[.l (dL f.c),.l (dL f.d),.i f.k,.l (dF pots)]) L_ky rfl ?_;have ok :∀g:Frm,Std (20+6*M) g→Ev L f_kx g.cells [dB true]:=fun g hg=>by
  have:=Ji4 g hg.fit
  rwa [hg.okF (by omega)] at this
 refine JuM (args:=f.cells) rfl rfl (ok f (hfs.mono (by omega))) rfl ?_;refine JuN rfl ?_;have c0:bol (Jo ([V.l (dL f.c),V.l (dL f.d),V.i f.k,V.l (dF pots)]++[V.b true])) (.not (.cmp .eq (.len (.v 3)) (.z 3)))=decide (¬(pots.length:Int)=3):=by
  simp[bol,den,V.bool,V.int,V.lst,CO.sem,Jo,J8]
 refine JuB (¬(pots.length:Int)=3) c0 (fun h=>by omega) (fun _=>?_);obtain⟨p0,h00,d0⟩:=Jbb (l:=pots) (i:=0) (by omega) (by omega);obtain⟨p1,h11,d1⟩:=Jbb (l:=pots) (i:=1) (by omega) (by omega);obtain⟨p2,h22,d2⟩:=Jbb (l:=pots) (i:=2) (by omega) (by omega);refine Juz (ds:=dF pots) 0 rfl rfl rfl (by omega) d0 rfl ?_;refine JuM (args:=p0.cells) rfl rfl (ok p0 ((hp p0 (Ju7 h00)).mono (by omega))) rfl ?_;refine JuN rfl ?_;refine Juz (ds:=dF pots) 1 rfl rfl rfl (by omega) d1 rfl ?_;refine JuM (args:=p1.cells) rfl rfl (ok p1 ((hp p1 (Ju7 h11)).mono (by omega))) rfl ?_;refine JuN rfl ?_;refine Juz (ds:=dF pots) 2 rfl rfl rfl (by omega) d2 rfl ?_;refine JuM (args:=p2.cells) rfl rfl (ok p2 ((hp p2 (Ju7 h22)).mono (by omega))) rfl ?_;refine JuN rfl ?_;refine Jus (dL f.d) rfl (by rw[dL1];omega) ?_;refine JuT (by show Yf 1 (dL f.d)=true;cases f.d <;> rfl) ?_;refine Jus (dL f.d) rfl (by rw[dL1];omega) ?_
 let acc:Nat→Frm:=fun i=>(List.zip (pots.take i) (f.c.take i)).foldl (fun x q=>JX x q.1 q.2) ⟨[0,0,0],f.d,f.k⟩
 have hacc :∀i,i≤3→Std (20+6*M) (acc i):=fun i hi=>by
  rcases JcY hf hp h0 i hi with h | h
  ·refine h.mono ?_;have:2*M*(i:Int)≤2*M*3:=Int.mul_le_mul_of_nonneg_left (by omega) (by omega);omega
  ·omega
 refine JuQ (fun m vs=>∃ i:Nat,i≤3∧m=3-i∧vs=[.l (dL (acc i).c),.l (dL (acc i).d),.i i,.i (acc i).k]) rfl 3 ⟨0,by omega,rfl,rfl⟩ ?_;rintro m _ ⟨i,hi,hm,rfl⟩;refine JuB ((i:Int)<3) rfl (fun h=>?_) (fun h=>?_)
 ·obtain⟨x,hx,hd⟩:=Jbb (l:=pots) (i:=(i:Int)) (by omega) (by omega);have hsx:=hp x (Ju7 hx);refine Juz (ds:=dF pots) i rfl rfl rfl (by omega) hd rfl ?_;refine Juz (ds:=dL f.c) i rfl rfl rfl (by omega) (J1 (by omega) (by omega)) rfl ?_;have hy:=XU f3 (k:=(i:Int).toNat) (by omega);have hn:acc (i+1)=JX (acc i) x (f.c.getD (i:Int).toNat 0):=by
   rw[Int.toNat_natCast] at hx;have e2:f.c[i]? = some (f.c.getD (i:Int).toNat 0):=by simp[Ju3,show i<f.c.length by omega]
   simp only[acc];rw[tS1 hx,tS1 e2,List.zip_append (by simp;omega),List.foldl_append];rfl
  refine JuM (args:=(acc i).cells++x.cells++[dI (f.c.getD (i:Int).toNat 0)]) rfl rfl (VS (hacc i hi) (hsx.mono (by omega)) (by omega) (by omega)) rfl ?_;refine JuC (vs:=[.l (dL (acc (i+1)).c),.l (dL (acc (i+1)).d),.i ((i+1:Nat):Int),.i (acc (i+1)).k]) ?_ ⟨m-1,by omega,i+1,by omega,by omega,rfl⟩;rw[hn];show [V.l _,V.l _,V.i (i64.wrap ((i:Int)+1)),V.i _]=_;rw[w64 (by omega) (by omega)];rfl
 refine Juk ?_;have hi3:i=3:=by omega
 subst hi3;refine JuM (args:=(acc 3).cells) rfl rfl (ok _ (hacc 3 (by omega))) rfl ?_;refine JuN rfl ?_;refine Jun ?_;show (acc 3).cells=_;simp only[acc];rw[Ju4 (by omega),Ju4 (by omega)];rfl
end Go.Proofs.YtngcnclchcahlabGreatDoor
