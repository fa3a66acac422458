import Derived.Test.YtngcnclchcahlaaGreatDoorR
import Derived.Test.YtngcnclchcahlaaGreatDoorTd
set_option linter.unusedVariables false
set_option linter.unusedSimpArgs false
/- What the draws come to: a reader's picks,and what is drawn by them. -/
namespace Go.Proofs.YtngcnclchcahlaaGreatDoor
open Go Go.Tm
open Go.IntKind (i64)
structure Rdr (bs:List Int) (p:Int):Prop where
 byte :∀x∈bs,0≤x∧x<256
 len:bs.length≤2000
 pos:0≤p
 far:p≤1000000000000
theorem VQ {bs:List Int} {p n:Int} (hr:Rdr bs p) (hn:n≤2000000) :
  ∃ v,Ev L f_k1 [.s (Ja bs),dI p,dI n] [dI v,.s (Ja bs),dI (p+1)]∧(n<1→v=0)∧(1≤n→0≤v∧v<n):=by
 have hp:=hr.pos;have hf:=hr.far;have hl:=hr.len;have w1:i64.wrap (p+1)=p+1:=w64 (by omega) (by omega);have w2:i64.wrap (p+1-1)=p:=by rw[w64 (by omega) (by omega)];omega
 have key : ∃ ds,Ev L f_k1 [.s (Ja bs),dI p,dI n] ds∧∃ v,ds=[dI v,.s (Ja bs),dI (p+1)]∧(n<1→v=0)∧(1≤n→0≤v∧v<n):=by
  refine Jt4 (vs:=[.l (Ja bs),.i p,.i n]) L_k1 rfl ?_;have hend :∀v:Int,[dI v,.s (Ja bs),dI (i64.wrap (p+1))]=[dI v,.s (Ja bs),dI (p+1)]:=fun v=>by rw[w1]
  refine Jty (n<1) rfl (fun h=>Jt0 ⟨0,hend 0,fun _=>rfl,fun h'=>by omega⟩) (fun h=>?_);refine Jty (((Ja bs).length:Int)=0) rfl (fun h'=>Jt0 ⟨0,hend 0,fun _=>rfl,fun h'=>by omega⟩) (fun h0=>?_);rw[QW] at h0;refine Jty (i64.wrap (i64.wrap (p+1)-1)<((Ja bs).length:Int)) rfl (fun h1=>?_) (fun h1=>?_)
  ·rw[w1,w2,QW] at h1;have hb:=XC hr.byte (show p.toNat<bs.length by omega);refine JtJ (ds:=Ja bs) p rfl rfl (show i64.wrap (i64.wrap (p+1)-1)=p by rw[w1,w2]) hp (W8 hp h1) rfl ?_;refine JtP (¬n=0) (by simp[bol,den,V.bool,V.int,CO.sem,Jn]) (by omega) ?_;refine Jt0 ⟨(i64.wrap (bs.getD p.toNat 0)).tmod n,hend _,fun h'=>absurd h' h,fun h'=>?_⟩;rw[w64 (by omega) (by omega),Int.tmod_eq_emod_of_nonneg hb.1];exact⟨Int.emod_nonneg _ (by omega),Int.emod_lt_of_pos _ (by omega)⟩
  ·have hw:i64.wrap (i64.wrap (p+1)-1)=p:=by rw[w1,w2]
   have hlp:0<(bs.length:Int):=by omega
   have hm1:0≤p.tmod bs.length∧p.tmod bs.length<bs.length:=by
    rw[Int.tmod_eq_emod_of_nonneg hp];exact⟨Int.emod_nonneg _ (by omega),Int.emod_lt_of_pos _ hlp⟩
   have hq:0≤i64.wrap (i64.wrap (p*7)+3):=by rw[w64 (n:=p*7) (by omega) (by omega),w64 (by omega) (by omega)];omega
   have hm2:0≤(i64.wrap (i64.wrap (p*7)+3)).tmod bs.length∧(i64.wrap (i64.wrap (p*7)+3)).tmod bs.length<bs.length:=by
    rw[Int.tmod_eq_emod_of_nonneg hq];exact⟨Int.emod_nonneg _ (by omega),Int.emod_lt_of_pos _ hlp⟩
   have hb1:=XC hr.byte (show (p.tmod bs.length).toNat<bs.length by omega);have hb2:=XC hr.byte (show ((i64.wrap (i64.wrap (p*7)+3)).tmod bs.length).toNat<bs.length by omega);have c0 :∀(l:List V),bol (Jn ((.l (Ja bs)::l))) (.not (.cmp .eq (.len (.v 0)) (.z 0)))=decide (¬((Ja bs).length:Int)=0):=by
    intro l;simp[bol,den,V.bool,V.int,CO.sem,Jn,V.lst]
   refine JtP (¬((Ja bs).length:Int)=0) (c0 _) (by rw[QW];exact h0) ?_;refine JtJ (ds:=Ja bs) (p.tmod bs.length) rfl rfl ?_ hm1.1 (W8 hm1.1 hm1.2) rfl ?_
   ·show (i64.wrap (i64.wrap (p+1)-1)).tmod ((Ja bs).length:Int)=_;rw[hw,QW]
   refine JtP (¬((Ja bs).length:Int)=0) (c0 _) (by rw[QW];exact h0) ?_;refine JtJ (ds:=Ja bs) ((i64.wrap (i64.wrap (p*7)+3)).tmod bs.length) rfl rfl ?_ hm2.1 (W8 hm2.1 hm2.2) rfl ?_
   ·show (i64.wrap (i64.wrap (i64.wrap (i64.wrap (p+1)-1)*7)+3)).tmod ((Ja bs).length:Int)=_;rw[hw,QW]
   refine JtP (¬((Ja bs).length:Int)=0) (c0 _) (by rw[QW];exact h0) ?_;refine JtP (¬(64:Int)=0) (by simp[bol,den,V.bool,V.int,CO.sem]) (by omega) ?_;refine JtP (¬n=0) (by simp[bol,den,V.bool,V.int,CO.sem,Jn]) (by omega) ?_;refine Jt0 ⟨_,hend _,fun h'=>absurd h' h,fun h'=>?_⟩;generalize bs.getD (p.tmod bs.length).toNat 0=b1 at *;generalize bs.getD ((i64.wrap (i64.wrap (p*7)+3)).tmod bs.length).toNat 0=b2 at *;have hd:0≤p.tdiv bs.length∧p.tdiv bs.length≤p:=by
    rw[Int.tdiv_eq_ediv_of_nonneg hp];exact⟨Int.ediv_nonneg hp (by omega),Int.ediv_le_self _ hp⟩
   have e1:i64.wrap b1=b1:=w64 (by omega) (by omega);have e2:i64.wrap b2=b2:=w64 (by omega) (by omega);have hx : ∃ x:Int,i64.wrap (i64.wrap (i64.wrap (i64.wrap (i64.wrap b1*131)+i64.wrap (i64.wrap b2*1117))+i64.wrap (i64.wrap (i64.wrap (p+1)-1)*29))+i64.wrap (i64.wrap ((i64.wrap (i64.wrap (p+1)-1)).tdiv ((Ja bs).length:Int))*53))=x∧0≤x∧x<2 ^ 62:=by
    rw[hw,QW,e1,e2,w64 (n:=p.tdiv bs.length) (by omega) (by omega),w64 (n:=b1*131) (by omega) (by omega),w64 (n:=b2*1117) (by omega) (by omega),w64 (n:=p*29) (by omega) (by omega),w64 (n:=p.tdiv bs.length*53) (by omega) (by omega),
     w64 (n:=b1*131+b2*1117) (by omega) (by omega),w64 (n:=b1*131+b2*1117+p*29) (by omega) (by omega),w64 (by omega) (by omega)]
    exact⟨_,rfl,by omega,by omega⟩
   obtain⟨x,ex,hx0,hx1⟩:=hx;have main :∀z:Int,z=x→0≤(BO.sem .xor .i64 z (i64.wrap (z.tdiv 64))).tmod n∧(BO.sem .xor .i64 z (i64.wrap (z.tdiv 64))).tmod n<n:=by
    rintro z rfl;have hd64:0≤z.tdiv 64∧z.tdiv 64≤z:=by
     rw[Int.tdiv_eq_ediv_of_nonneg hx0];omega
    rw[w64 (n:=z.tdiv 64) (by omega) (by omega)];have:=Jnp ⟨hx0,hx1⟩ (show 0≤z.tdiv 64∧z.tdiv 64<2 ^ 62 by omega);rw[Int.tmod_eq_emod_of_nonneg this.1];exact⟨Int.emod_nonneg _ (by omega),Int.emod_lt_of_pos _ (by omega)⟩
   exact main _ ex
 obtain⟨ds,h1,v,rfl,h2⟩:=key;exact⟨v,h1,h2⟩
/- What draws of numbers come to. -/
theorem JpU (ns:List Int) (hb :∀x∈ns,0≤x∧x<256) : ∃ bs,Ev L f_k0 [.s (Ja ns)] [.s (Ja bs),dI 0]∧Rdr bs 0:=by
 have key : ∃ ds,Ev L f_k0 [.s (Ja ns)] ds∧∃ bs,ds=[.s (Ja bs),dI 0]∧Rdr bs 0:=by
  refine Jt4 (vs:=[.l (Ja ns)]) L_k0 rfl ?_;refine Jty (2000<((Ja ns).length:Int)) rfl (fun h=>?_) (fun h=>?_)
  ·rw[QW] at h;refine JtP (2000≤((Ja ns).length:Int)) rfl (by rw[QW];omega) ?_;refine Jt0 ⟨ns.take 2000,?_,⟨fun x hx=>hb x (Jux hx),by simp;omega,by omega,by omega⟩⟩;show [D.s ((Ja ns).take 2000),dI 0]=_;simp[Ja,List.map_take]
  ·rw[QW] at h;exact Jt0 ⟨ns,rfl,⟨hb,by omega,by omega,by omega⟩⟩
 obtain⟨ds,h1,bs,rfl,h2⟩:=key;exact⟨bs,h1,h2⟩
theorem Rdr.go {bs:List Int} {p q:Int} (h:Rdr bs p) (h1:p≤q) (h2:q≤1000000000000):Rdr bs q:=⟨h.byte,h.len,by have:=h.pos;omega,h2⟩
theorem Jpx {bs:List Int} {p n:Int} (hr:Rdr bs p) (hf:p≤999999999000) (hn:n≤2000000) :
  ∃ l q,Ev L f_k31 [.s (Ja bs),dI p,dI n] [.s (dL l),.s (Ja bs),dI q]∧p≤q∧q≤p+10∧l.length≤4∧Lim 20000 l:=by
 have key : ∃ ds,Ev L f_k31 [.s (Ja bs),dI p,dI n] ds∧∃ l q,ds=[.s (dL l),.s (Ja bs),dI q]∧p≤q∧q≤p+10∧l.length≤4∧Lim 20000 l:=by
  refine Jt4 (vs:=[.l (Ja bs),.i p,.i n]) L_k31 rfl ?_;refine JtL (fun m vs=>∃ (l:List Int) (i:Int),vs=[.l (dL l),.i i,.i (p+i),.l (Ja bs)]∧(l.length:Int)=i∧0≤i∧i≤3∧(m:Int)=3-i∧Lim 20000 l) rfl 3
   ⟨[],0,by simp[den,Jn,dL,V.int],rfl,by omega,by omega,by omega,fun x hx=>by simp at hx⟩ ?_
  rintro m _ ⟨l,i,rfl,hl,h0,h3,hm,hlim⟩;have hri:Rdr bs (p+i):=hr.go (by omega) (by omega);refine Jty (i<3) rfl (fun h=>?_) (fun h=>?_)
  ·obtain⟨v,hv,_,hv2⟩:=VQ hri (n:=9) (by omega);have hv2:=hv2 (by omega);refine Jtz (args:=[.s (Ja bs),dI (p+i),dI 9]) rfl rfl hv rfl ?_;refine JtP (0≤v) rfl hv2.1 ?_;refine JtP (v<9) rfl hv2.2 ?_;refine JtJ (ds:=dL [0,1,5,20,-3,60,10000,-10000,9996]) v rfl rfl rfl hv2.1 (J1 hv2.1 hv2.2) rfl ?_;have hx:=XC (p:=fun x=>-20000≤x∧x≤20000) (l:=[0,1,5,20,-3,60,10000,-10000,9996]) (by decide) (k:=v.toNat) (by simp;omega);generalize ([0,1,5,20,-3,60,10000,-10000,9996]:List Int).getD v.toNat 0=x at *;refine JtP (((dL l++[dI x]).length:Int)≤8796093022208) rfl (by simp[dL1];omega) ?_;refine JtK (vs:=[.l (dL (l++[x])),.i (i+1),.i (p+(i+1)),.l (Ja bs)]) ?_ ⟨m-1,by omega,l++[x],i+1,rfl,by simp;omega,by omega,by omega,by omega,hlim.snoc hx⟩;show [V.l (dL l++[dI x]),V.i (i64.wrap (i+1)),V.i (p+i+1),V.l (Ja bs)]=_;rw[Q8,w64 (by omega) (by omega),Int.add_assoc]
  ·refine JtA ?_;obtain⟨v,hv,_,_⟩:=VQ hri (n:=n) hn;refine Jtz (args:=[.s (Ja bs),dI (p+i),dI n]) rfl rfl hv rfl ?_;refine Jty (v=0) rfl (fun hv0=>?_) (fun hv0=>Jt0 ⟨l,p+i+1,rfl,by omega,by omega,by omega,hlim⟩);obtain⟨u,hu,_,hu2⟩:=VQ (hri.go (q:=p+i+1) (by omega) (by omega)) (n:=3) (by omega);have hu2:=hu2 (by omega);refine Jtz (args:=[.s (Ja bs),dI (p+i+1),dI 3]) rfl rfl hu rfl ?_;refine Jty (u=0) rfl (fun hu0=>?_) (fun hu0=>?_)
   ·refine JtP (2≤((dL l).length:Int)) rfl (by rw[dL1];omega) ?_;refine Jt0 ⟨l.take 2,p+i+1+1,?_,by omega,by omega,by simp;omega,hlim.take 2⟩;show [D.s ((dL l).take 2),D.s (Ja bs),dI (p+i+1+1)]=_;rw[VO]
   refine Jty (u=1) rfl (fun hu1=>?_) (fun hu1=>?_)
   ·refine JtP (((dL l++[dI 0]).length:Int)≤8796093022208) rfl (by simp[dL1];omega) ?_;refine Jt0 ⟨l++[0],p+i+1+1,?_,by omega,by omega,by simp;omega,hlim.snoc (by omega)⟩;show [D.s (dL l++[dI 0]),D.s (Ja bs),dI (p+i+1+1)]=_;rw[Q8]
   obtain⟨a,ha,_,ha2⟩:=VQ (hri.go (q:=p+i+1+1) (by omega) (by omega)) (n:=3) (by omega);have ha2:=ha2 (by omega);refine Jtz (args:=[.s (Ja bs),dI (p+i+1+1),dI 3]) rfl rfl ha rfl ?_;obtain⟨b,hb,_,hb2⟩:=VQ (hri.go (q:=p+i+1+1+1) (by omega) (by omega)) (n:=2) (by omega);have hb2:=hb2 (by omega);refine Jtz (args:=[.s (Ja bs),dI (p+i+1+1+1),dI 2]) rfl rfl hb rfl ?_;refine JtP (0≤b) rfl hb2.1 ?_;refine JtP (b<2) rfl hb2.2 ?_;refine JtJ (ds:=dL [10001,-10001]) b rfl rfl rfl hb2.1 (J1 hb2.1 hb2.2) rfl ?_;have hx:=XC (p:=fun x=>-20000≤x∧x≤20000) (l:=[10001,-10001]) (by decide) (k:=b.toNat) (by simp;omega);generalize ([10001,-10001]:List Int).getD b.toNat 0=x at *;refine JtP (0≤a) rfl ha2.1 ?_;refine JtP (a<((dL l).length:Int)) rfl (by rw[dL1];omega) ?_;refine JtJ (ds:=dL l) a rfl rfl rfl ha2.1 (J1 ha2.1 (by omega)) rfl ?_;refine Jt0 ⟨l.set a.toNat x,p+i+1+1+1+1,?_,by omega,by omega,by simp;omega,hlim.set hx _⟩;show [D.s ((dL l).set a.toNat (dI x)),D.s (Ja bs),dI (p+i+1+1+1+1)]=_;rw[QH]
 obtain⟨ds,h1,l,q,rfl,h2⟩:=key;exact⟨l,q,h1,h2⟩
/- What draws of treaties,of what sites have added,of forms and lines come to. -/
theorem Je {r:R} {l:List V} {Q:Oc→Prop} {c:Nat} {as:List E} {bs:List Int} {p:Int} (n:Int) (hr:Rdr bs p) (h1:1≤n) (hn:n≤2000000) (hc:c=l.length) (ha:as.map (dat (Jn l))=[.s (Ja bs),dI p,dI n])
  (h :∀v,0≤v→v<n→WR L r (l++[.i v,.l (Ja bs),.i (p+1)]) Q):WR L (.i (.call f_k1 as [.i .i64,.s,.i .i64] c) r) l Q:=by
 obtain⟨v,hv,_,hv2⟩:=VQ hr hn;exact Jtz hc ha hv rfl (h v (hv2 h1).1 (hv2 h1).2)
theorem JoY {bs:List Int} {p n:Int} (hr:Rdr bs p) (hf:p≤999999990000) (h1:1≤n) (hn:n≤2000000) :
  ∃ a q,Ev L f_k32 [.s (Ja bs),dI p,dI n] [.s (dL a),.s (Ja bs),dI q]∧p≤q∧q≤p+10∧a.length≤4∧Lim 30000 a:=by
 have key : ∃ ds,Ev L f_k32 [.s (Ja bs),dI p,dI n] ds∧∃ a q,ds=[.s (dL a),.s (Ja bs),dI q]∧p≤q∧q≤p+10∧a.length≤4∧Lim 30000 a:=by
  refine Jt4 (vs:=[.l (Ja bs),.i p,.i n]) L_k32 rfl ?_;refine Je 9 hr (by omega) (by omega) rfl rfl fun u hu0 hu1=>?_;refine Je 9 (hr.go (q:=p+1) (by omega) (by omega)) (by omega) (by omega) rfl rfl fun v hv0 hv1=>?_;refine Je 4 (hr.go (q:=p+1+1) (by omega) (by omega)) (by omega) (by omega) rfl rfl fun w hw0 hw1=>?_;refine JtP (0≤w) rfl hw0 ?_;refine JtP (w<4) rfl hw1 ?_;refine JtJ (ds:=dL [0,0,1,-2]) w rfl rfl rfl hw0 (J1 hw0 hw1) rfl ?_;have hx:=XC (p:=fun x=>-30000≤x∧x≤30000) (l:=[0,0,1,-2]) (by decide) (k:=w.toNat) (by simp;omega);generalize ([0,0,1,-2]:List Int).getD w.toNat 0=x at *;have hlim:Lim 30000 [u-4,v-4,x]:=by
   intro y hy;simp at hy;rcases hy with rfl | rfl | rfl
   ·omega
   ·omega
   ·exact hx
  have e:[dI (i64.wrap (u-4)),dI (i64.wrap (v-4)),dI x]=dL [u-4,v-4,x]:=by
   rw[w64 (by omega) (by omega),w64 (by omega) (by omega)];rfl
  refine Je n (hr.go (q:=p+1+1+1) (by omega) (by omega)) h1 hn rfl rfl fun y hy0 hy1=>?_;refine Jty (y=0) rfl (fun hy=>?_) (fun hy=>Jt0 ⟨[u-4,v-4,x],p+1+1+1+1,?_,by omega,by omega,by simp,hlim⟩)
  ·refine Je 3 (hr.go (q:=p+1+1+1+1) (by omega) (by omega)) (by omega) (by omega) rfl rfl fun z hz0 hz1=>?_;refine Jty (z=0) rfl (fun hz=>?_) (fun hz=>?_)
   ·refine Jt0 ⟨[u-4,v-4,x].take 2,p+1+1+1+1+1,?_,by omega,by omega,by simp,hlim.take 2⟩;show [D.s ([dI (i64.wrap (u-4)),dI (i64.wrap (v-4)),dI x].take 2),D.s (Ja bs),dI (p+1+1+1+1+1)]=_;rw[e,VO]
   refine Jty (z=1) rfl (fun hz=>?_) (fun hz=>?_)
   ·refine Je 3 (hr.go (q:=p+1+1+1+1+1) (by omega) (by omega)) (by omega) (by omega) rfl rfl fun t ht0 ht1=>?_;refine JtP (0≤t) rfl ht0 ?_;refine JtP (t<3) rfl ht1 ?_;refine JtJ (ds:=dL [20001,60,-60]) t rfl rfl rfl ht0 (J1 ht0 ht1) rfl ?_;have hx2:=XC (p:=fun x=>-30000≤x∧x≤30000) (l:=[20001,60,-60]) (by decide) (k:=t.toNat) (by simp;omega);generalize ([20001,60,-60]:List Int).getD t.toNat 0=x2 at *;refine JtJ (ds:=dL [u-4,v-4,x]) 0 rfl e rfl (by omega) (J1 (by omega) (by simp)) rfl ?_;refine Jt0 ⟨[u-4,v-4,x].set 0 x2,p+1+1+1+1+1+1,?_,by omega,by omega,by simp,hlim.set hx2 _⟩;show [D.s ([dI (i64.wrap (u-4)),dI (i64.wrap (v-4)),dI x].set 0 (dI x2)),D.s (Ja bs),dI (p+1+1+1+1+1+1)]=_;rw[e,QH]
   ·refine JtD ([dI (i64.wrap (u-4)),dI (i64.wrap (v-4)),dI x]++[dI 0]) rfl (by simp only[Juf,List.length_cons,List.length_nil];omega) ?_;refine Jt0 ⟨[u-4,v-4,x]++[0],p+1+1+1+1+1,?_,by omega,by omega,by simp,hlim.snoc (by omega)⟩;show [D.s ([dI (i64.wrap (u-4)),dI (i64.wrap (v-4)),dI x]++[dI 0]),D.s (Ja bs),dI (p+1+1+1+1+1)]=_;rw[e,Q8]
  ·show [D.s [dI (i64.wrap (u-4)),dI (i64.wrap (v-4)),dI x],D.s (Ja bs),dI (p+1+1+1+1)]=_;rw[e]
 obtain⟨ds,e1,a,q,rfl,e2⟩:=key;exact⟨a,q,e1,e2⟩
/- What says whether forms,lines,acts are ok. -/
theorem JP (n a b:Int):Ev L f_k7 [dI n,dI a,dI b] [dB (inB n a b)]:=by
 refine Jt7 (vs:=[.i n,.i a,.i b]) L_k7 rfl ?_;refine Jty (a≤n) rfl (fun h=>Jt0 ?_) (fun h=>Jt0 ?_)
 ·show [dB (decide (n≤b))]=_;simp[inB,h]
 ·show [dB false]=_;simp[inB,h]
theorem Xj (l:List Int) (n m:Int) (hl:l.length≤2000000) (h0:0≤m) (hm:m≤10000000000000):Ev L f_k8 [.s (dL l),dI n,dI m] [dB (JJ n m l)]:=by
 refine Jt7 (vs:=[.l (dL l),.i n,.i m]) L_k8 rfl ?_;have c0:bol (Jn [V.l (dL l),V.i n,V.i m]) (.not (.cmp .eq (.len (.v 0)) (.v 1)))=decide (¬(l.length:Int)=n):=by
  simp[bol,den,V.bool,V.int,V.lst,CO.sem,Jn,dL1]
 refine Jty (¬(l.length:Int)=n) c0 (fun h=>Jt0 ?_) (fun h=>?_)
 ·show [dB false]=_;simp[JJ,h]
 have h:(l.length:Int)=n:=by omega
 refine JtL (fun k vs=>∃ i:Int,vs=[.i i]∧0≤i∧i≤l.length∧(k:Int)=l.length-i∧(l.take i.toNat).all (fun x=>inB x (0-m) m)=true) rfl l.length ⟨0,rfl,by omega,by omega,by omega,by simp⟩ ?_;rintro k _ ⟨i,rfl,i0,i1,hk,ha⟩;refine Jty (i<((dL l).length:Int)) rfl (fun hi=>?_) (fun hi=>?_)
 ·rw[dL1] at hi;refine JtJ (ds:=dL l) i rfl rfl rfl i0 (J1 i0 hi) rfl ?_;have hx:l[i.toNat]? = some (l.getD i.toNat 0):=by simp[Juc,show i.toNat<l.length by omega]
  generalize l.getD i.toNat 0=x at *;refine Jtz (args:=[dI x,dI (0-m),dI m]) rfl ?_ (JP x (0-m) m) rfl ?_
  ·show [dI x,dI (i64.wrap (0-m)),dI m]=_;rw[w64 (by omega) (by omega)]
  refine Jty (inB x (0-m) m=false) ?_ (fun hb=>?_) (fun hb=>?_)
  ·show (!(inB x (0-m) m))=_;cases inB x (0-m) m <;> rfl
  ·refine JtA (Jt0 ?_);show [dB false]=_;have hna:l.all (fun x=>inB x (0-m) m)=false:=Yi (p:=fun x=>inB x (0-m) m) hx hb;simp only[JJ,hna];simp
  ·refine JtK (vs:=[.i (i+1)]) ?_ ⟨k-1,by omega,i+1,rfl,by omega,by omega,by omega,?_⟩
   ·show [V.i (i64.wrap (i+1))]=_;rw[w64 (by omega) (by omega)]
   ·rw[show (i+1).toNat=i.toNat+1 by omega];exact QV hx ha (by simpa using hb)
 ·rw[dL1] at hi;refine JtA (Jt0 ?_);show [dB true]=_;rw[Jud (by omega)] at ha;simp only[JJ,h,ha];simp
def Frm.fit (f:Frm):Prop:=f.c.length≤2000000∧f.d.length≤2000000
theorem WZ (f:Frm) (hf:Frm.fit f):Ev L f_k9 f.cells [dB f.small]:=by
 refine Jt7 (vs:=[.l (dL f.c),.l (dL f.d),.i f.k]) L_k9 rfl ?_;refine Jtz (args:=[.s (dL f.c),dI 3,dI 2]) rfl rfl (Xj f.c 3 2 hf.1 (by omega) (by omega)) rfl ?_;refine JtG (JJ 3 2 f.c) rfl (fun h=>?_) (fun h=>Jt0 ?_)
 ·refine Jtz (args:=[.s (dL f.d),dI 2,dI 2]) rfl rfl (Xj f.d 2 2 hf.2 (by omega) (by omega)) rfl ?_;refine JtG (JJ 2 2 f.d) rfl (fun h2=>?_) (fun h2=>Jt0 ?_)
  ·refine Jtz (args:=[dI f.k,dI (-20),dI 20]) rfl rfl (JP _ _ _) rfl ?_;refine Jt0 ?_;show [dB (inB f.k (-20) 20)]=_;simp[Frm.small,h,h2]
  ·show [dB false]=_;simp[Frm.small,h,h2]
 ·show [dB false]=_;simp[Frm.small,h]
theorem JhX (f:Frm) (hf:Frm.fit f):Ev L f_kx f.cells [dB f.ok]:=by
 refine Jt7 (vs:=[.l (dL f.c),.l (dL f.d),.i f.k]) L_kx rfl ?_;refine Jtz (args:=[.s (dL f.c),dI 3,dI 10000000]) rfl rfl (Xj f.c 3 10000000 hf.1 (by omega) (by omega)) rfl ?_;refine JtG (JJ 3 10000000 f.c) rfl (fun h=>?_) (fun h=>Jt0 ?_)
 ·refine Jtz (args:=[.s (dL f.d),dI 2,dI 10000000]) rfl rfl (Xj f.d 2 10000000 hf.2 (by omega) (by omega)) rfl ?_;refine JtG (JJ 2 10000000 f.d) rfl (fun h2=>?_) (fun h2=>Jt0 ?_)
  ·refine Jtz (args:=[dI f.k,dI (-10000000),dI 10000000]) rfl rfl (JP _ _ _) rfl ?_;refine Jt0 ?_;show [dB (inB f.k (-10000000) 10000000)]=_;simp[Frm.ok,h,h2]
  ·show [dB false]=_;simp[Frm.ok,h,h2]
 ·show [dB false]=_;simp[Frm.ok,h]
theorem Jmz (l:Jg) (hf:Frm.fit l.f):Ev L f_ka l.cells [dB l.ok]:=by
 refine Jt7 (vs:=[.i l.kind,.i l.pot,.i l.skip,.l (dL l.f.c),.l (dL l.f.d),.i l.f.k]) L_ka rfl ?_;refine Jty (l.kind=1) rfl (fun h1=>?_) (fun h1=>?_)
 ·refine Jty (l.pot=0) rfl (fun h2=>?_) (fun h2=>Jt0 ?_)
  ·refine Jtz (args:=[dI l.skip,dI 1,dI 6]) rfl rfl (JP _ _ _) rfl ?_;refine JtG (inB l.skip 1 6) rfl (fun h3=>?_) (fun h3=>Jt0 ?_)
   ·refine Jtz (args:=l.f.cells) rfl rfl (WZ l.f hf) rfl (Jt0 ?_);show [dB l.f.small]=_;simp[Jg.ok,h1,h2,h3]
   ·show [dB false]=_;simp[Jg.ok,h1,h2,h3]
  ·show [dB false]=_;simp[Jg.ok,h1,h2]
 refine Jty (l.kind=2) rfl (fun h2=>?_) (fun h2=>?_)
 ·refine Jtz (args:=[dI l.pot,dI 0,dI 2]) rfl rfl (JP _ _ _) rfl ?_;refine JtG (inB l.pot 0 2) rfl (fun h3=>?_) (fun h3=>Jt0 ?_)
  ·refine Jty (l.skip=0) rfl (fun h4=>?_) (fun h4=>Jt0 ?_)
   ·refine Jtz (args:=l.f.cells) rfl rfl (WZ l.f hf) rfl (Jt0 ?_);show [dB l.f.small]=_;simp[Jg.ok,h2,h3,h4]
   ·show [dB false]=_;simp[Jg.ok,h2,h3,h4]
  ·show [dB false]=_;simp[Jg.ok,h2,h3]
 refine Jty (l.kind=3) rfl (fun h3=>?_) (fun h3=>?_)
 ·refine Jty (l.pot=0) rfl (fun h4=>?_) (fun h4=>Jt0 ?_)
  ·refine Jty (l.skip=0) rfl (fun h5=>?_) (fun h5=>Jt0 ?_)
   ·refine Jtz (args:=l.f.cells) rfl rfl (WZ l.f hf) rfl (Jt0 ?_);show [dB l.f.small]=_;simp[Jg.ok,h3,h4,h5]
   ·show [dB false]=_;simp[Jg.ok,h3,h4,h5]
  ·show [dB false]=_;simp[Jg.ok,h3,h4]
 refine Jty (l.kind=4) rfl (fun h4=>?_) (fun h4=>Jt0 ?_)
 ·refine Jty (l.pot=0) rfl (fun h5=>?_) (fun h5=>Jt0 ?_)
  ·refine Jty (l.skip=0) rfl (fun h6=>?_) (fun h6=>Jt0 ?_)
   ·have hw:i64.wrap (((dL l.f.c).length:Int)+(dL l.f.d).length)=l.f.c.length+l.f.d.length:=by
     rw[dL1,dL1];have:=hf.1;have:=hf.2;exact w64 (by omega) (by omega)
    refine Jty (((l.f.c.length:Int)+l.f.d.length)=0) ?_ (fun h7=>Jt0 ?_) (fun h7=>Jt0 ?_)
    ·show decide (i64.wrap (((dL l.f.c).length:Int)+(dL l.f.d).length)=0)=_;rw[hw]
    ·show [dB (decide (l.f.k=0))]=_;simp only[Jg.ok,h4,h5,h6,h7];simp
    ·show [dB false]=_;simp only[Jg.ok,h4,h5,h6,h7];simp
   ·show [dB false]=_;simp[Jg.ok,h4,h5,h6]
  ·show [dB false]=_;simp[Jg.ok,h4,h5]
 ·show [dB false]=_;simp[Jg.ok,h1,h2,h3,h4]
def KB (a:List Jg):Prop:=a.length≤2000000∧∀l∈a,Frm.fit l.f
theorem UN {a:List Jg} {i:Int} (h0:0≤i) (h1:i<a.length) : ∃ x,a[i.toNat]? = some x∧(Jl a)[i.toNat]? = some x.g:=JkU h0 h1
theorem JaB (a:List Jg) (ha:KB a):Ev L f_kb [.s (Jl a)] [dB (Qp a)]:=by
 have hlen:=ha.1;refine Jt7 (vs:=[.l (Jl a)]) L_kb rfl ?_;refine JtL (fun k vs=>∃ i:Int,vs=[.i (Yg (a.take i.toNat)),.i i]∧0≤i∧i≤a.length∧(k:Int)=a.length-i∧(a.take i.toNat).all Jg.ok=true) rfl a.length ⟨0,rfl,by omega,by omega,by omega,by simp⟩ ?_;rintro k _ ⟨i,rfl,i0,i1,hk,hal⟩;have htl:Yg (a.take i.toNat)≤a.length:=Nat.le_trans List.countP_le_length (by simp;omega);refine Jty (i<((Jl a).length:Int)) rfl (fun hi=>?_) (fun hi=>?_)
 ·rw[JN] at hi;obtain⟨x,hx,hd⟩:=UN i0 hi;have hfx:=ha.2 x (Jug hx);refine JtJ (ds:=Jl a) i rfl rfl rfl i0 hd rfl ?_;refine Jtz (args:=x.cells) rfl rfl (Jmz x hfx) rfl ?_;refine Jty (x.ok=false) ?_ (fun hb=>?_) (fun hb=>?_)
  ·show (!x.ok)=_;cases x.ok <;> rfl
  ·refine JtA (Jt0 ?_);show [dB false]=_;simp[Qp,Yi hx hb]
  ·have hb:x.ok=true:=by simpa using hb
   refine JtJ (ds:=Jl a) i rfl rfl rfl i0 hd rfl ?_;have ht:Yg (a.take (i+1).toNat)=Yg (a.take i.toNat)+if x.kind=1 then 1 else 0:=by
    rw[show (i+1).toNat=i.toNat+1 by omega,tS1 hx];simp[Yg,List.countP_append,List.countP_cons]
   have hal':(a.take (i+1).toNat).all Jg.ok=true:=by
    rw[show (i+1).toNat=i.toNat+1 by omega];exact QV hx hal hb
   refine Jty (x.kind=1) rfl (fun h1=>?_) (fun h1=>?_)
   ·refine JtK (vs:=[.i (Yg (a.take (i+1).toNat)),.i (i+1)]) ?_ ⟨k-1,by omega,i+1,rfl,by omega,by omega,by omega,hal'⟩;show [V.i (i64.wrap ((Yg (a.take i.toNat):Int)+1)),V.i (i64.wrap (i+1))]=_;rw[w64 (n:=i+1) (by omega) (by omega),w64 (by omega) (by omega),ht,if_pos h1];rfl
   ·refine JtK (vs:=[.i (Yg (a.take (i+1).toNat)),.i (i+1)]) ?_ ⟨k-1,by omega,i+1,rfl,by omega,by omega,by omega,hal'⟩;show [V.i (Yg (a.take i.toNat):Int),V.i (i64.wrap (i+1))]=_;rw[w64 (n:=i+1) (by omega) (by omega),ht,if_neg h1];rfl
 ·rw[JN] at hi;rw[Jud (by omega)] at hal htl ⊢;refine JtA ?_;refine Jty (((Jl a).length:Int)≤6) rfl (fun h6=>Jt0 ?_) (fun h6=>Jt0 ?_)
  ·rw[JN] at h6;show [dB (decide ((Yg a:Int)≤3))]=_;simp only[Qp,hal,h6];simp
  ·rw[JN] at h6;show [dB false]=_;simp only[Qp,h6];simp
/- What draws of forms,lines,acts come to. -/
theorem XL:Ev L f_k2 [] Frm.zero.cells:=Jt7 (vs:=[]) L_k2 rfl (Jt0 rfl)
theorem ZK (a b k:Int):Ev L f_k3 [dI a,dI b,dI k] (Frm.cells ⟨[0,0,0],[a,b],k⟩):=by
 refine Jt7 (vs:=[.i a,.i b,.i k]) L_k3 rfl ?_;refine Jtz (args:=[]) rfl rfl XL rfl ?_;refine JtP ((0:Int)<2) rfl (by omega) ?_;refine JtJ (ds:=dL [0,0]) 0 rfl rfl rfl (by omega) rfl rfl ?_;refine JtP ((1:Int)<2) rfl (by omega) ?_;refine JtJ (ds:=dL [a,0]) 1 rfl rfl rfl (by omega) rfl rfl ?_;exact Jt0 rfl
theorem YT (f:Frm) (v n:Int) (h0:0≤v) (h1:v<f.c.length):Ev L f_k4 [.s (dL f.c),.s (dL f.d),dI f.k,dI v,dI n] [dI f.k,.s (dL (f.c.set v.toNat n)),.s (dL f.d)]:=by
 refine Jt7 (vs:=[.l (dL f.c),.l (dL f.d),.i f.k,.i v,.i n]) L_k4 rfl ?_;refine JtP (0≤v) rfl h0 ?_;refine JtP (v<((dL f.c).length:Int)) rfl (by rw[dL1];exact h1) ?_;refine JtJ (ds:=dL f.c) v rfl rfl rfl h0 (J1 h0 h1) rfl ?_;refine Jt0 ?_;show [dI f.k,.s ((dL f.c).set v.toNat (dI n)),.s (dL f.d)]=_;rw[QH]
theorem Q9 {bs:List Int} {p:Int} (hr:Rdr bs p) (hf:p≤999999990000) :
  ∃ (f:Frm) (q:Int),Ev L f_k5 [.s (Ja bs),dI p] (f.cells++[.s (Ja bs),dI q])∧p≤q∧q≤p+10∧f.c.length=3∧f.d.length=2:=by
 have key : ∃ ds,Ev L f_k5 [.s (Ja bs),dI p] ds∧∃ (f:Frm) (q:Int),ds=f.cells++[.s (Ja bs),dI q]∧p≤q∧q≤p+10∧f.c.length=3∧f.d.length=2:=by
  refine Jt4 (vs:=[.l (Ja bs),.i p]) L_k5 rfl ?_;refine Jtz (args:=[]) rfl rfl XL rfl ?_;refine JtL (fun m vs=>∃ (c:List Int) (i:Int),vs=[.l (dL c),.i i,.i (p+i),.l (Ja bs)]∧c.length=3∧0≤i∧i≤3∧(m:Int)=3-i) rfl 3 ⟨[0,0,0],0,by simp[den,Jn,dL,V.int,Frm.zero],rfl,by omega,by omega,by omega⟩ ?_;rintro m _ ⟨c,i,rfl,hc,i0,i3,hm⟩;refine Jty (i<3) rfl (fun h=>?_) (fun h=>?_)
  ·refine Je 6 (hr.go (q:=p+i) (by omega) (by omega)) (by omega) (by omega) rfl rfl fun v hv0 hv1=>?_;refine JtP (0≤v) rfl hv0 ?_;refine JtP (v<6) rfl hv1 ?_;refine JtJ (ds:=dL [0,0,0,1,-1,2]) v rfl rfl rfl hv0 (J1 hv0 hv1) rfl ?_;generalize ([0,0,0,1,-1,2]:List Int).getD v.toNat 0=x at *;refine JtP (0≤i) rfl i0 ?_;refine JtP (i<((dL c).length:Int)) rfl (by rw[dL1];omega) ?_;refine JtJ (ds:=dL c) i rfl rfl rfl i0 (J1 i0 (by omega)) rfl ?_;refine JtK (vs:=[.l (dL (c.set i.toNat x)),.i (i+1),.i (p+(i+1)),.l (Ja bs)]) ?_ ⟨m-1,by omega,c.set i.toNat x,i+1,rfl,by simp[hc],by omega,by omega,by omega⟩;show [V.l ((dL c).set i.toNat (dI x)),V.i (i64.wrap (i+1)),V.i (p+i+1),V.l (Ja bs)]=_;rw[QH,w64 (by omega) (by omega),Int.add_assoc]
  refine JtA ?_;have hi:i=3:=by omega
  subst hi;refine JtL (fun m vs=>∃ (d:List Int) (j:Int),vs=[.l (dL d),.i j,.i (p+3+j),.l (Ja bs)]∧d.length=2∧0≤j∧j≤2∧(m:Int)=2-j) rfl 2 ⟨[0,0],0,by simp[den,Jn,dL,V.int,V.lst,Frm.zero],rfl,by omega,by omega,by omega⟩ ?_;rintro m _ ⟨d,j,rfl,hd,j0,j2,hm⟩;refine Jty (j<2) rfl (fun h=>?_) (fun h=>?_)
  ·refine Je 5 (hr.go (q:=p+3+j) (by omega) (by omega)) (by omega) (by omega) rfl rfl fun v hv0 hv1=>?_;refine JtP (0≤v) rfl hv0 ?_;refine JtP (v<5) rfl hv1 ?_;refine JtJ (ds:=dL [0,0,1,-1,2]) v rfl rfl rfl hv0 (J1 hv0 hv1) rfl ?_;generalize ([0,0,1,-1,2]:List Int).getD v.toNat 0=x at *;refine JtP (0≤j) rfl j0 ?_;refine JtP (j<((dL d).length:Int)) rfl (by rw[dL1];omega) ?_;refine JtJ (ds:=dL d) j rfl rfl rfl j0 (J1 j0 (by omega)) rfl ?_;refine JtK (vs:=[.l (dL (d.set j.toNat x)),.i (j+1),.i (p+3+(j+1)),.l (Ja bs)]) ?_ ⟨m-1,by omega,d.set j.toNat x,j+1,rfl,by simp[hd],by omega,by omega,by omega⟩;show [V.l ((dL d).set j.toNat (dI x)),V.i (i64.wrap (j+1)),V.i (p+3+j+1),V.l (Ja bs)]=_;rw[QH,w64 (by omega) (by omega),Int.add_assoc (p+3)]
  refine JtA ?_;refine Je 8 (hr.go (q:=p+3+j) (by omega) (by omega)) (by omega) (by omega) rfl rfl fun v hv0 hv1=>?_;refine JtP (0≤v) rfl hv0 ?_;refine JtP (v<8) rfl hv1 ?_;refine JtJ (ds:=dL [0,0,1,-1,5,-5,20,-20]) v rfl rfl rfl hv0 (J1 hv0 hv1) rfl ?_;exact Jt0 ⟨⟨c,d,_⟩,p+3+j+1,rfl,by omega,by omega,hc,hd⟩
 obtain⟨ds,e1,f,q,rfl,e2⟩:=key;exact⟨f,q,e1,e2⟩
def KD (l:Jg):Prop:=l.f.c.length≤3∧l.f.d.length≤2
theorem Jke {bs:List Int} {p:Int} (hr:Rdr bs p) (hf:p≤999999980000) :
  ∃ (l:Jg) (q:Int),Ev L f_k6 [.s (Ja bs),dI p] (l.cells++[.s (Ja bs),dI q])∧p≤q∧q≤p+20∧KD l:=by
 have key : ∃ ds,Ev L f_k6 [.s (Ja bs),dI p] ds∧∃ (l:Jg) (q:Int),ds=l.cells++[.s (Ja bs),dI q]∧p≤q∧q≤p+20∧KD l:=by
  refine Jt4 (vs:=[.l (Ja bs),.i p]) L_k6 rfl ?_;refine Je 7 hr (by omega) (by omega) rfl rfl fun v hv0 hv1=>?_;have hr1:Rdr bs (p+1):=hr.go (by omega) (by omega);refine Jty (v=0) rfl (fun h=>?_) (fun h0=>?_)
  ·refine Je 3 hr1 (by omega) (by omega) rfl rfl fun u hu0 hu1=>?_;obtain⟨f,q,e,q1,q2,f1,f2⟩:=Q9 (hr1.go (q:=p+1+1) (by omega) (by omega)) (by omega);refine Jtz (args:=[.s (Ja bs),dI (p+1+1)]) rfl rfl e rfl ?_;exact Jt0 ⟨⟨1,0,i64.wrap (1+u),f⟩,q,rfl,by omega,by omega,by simp[KD,f1,f2]⟩
  refine Jty (v=1) rfl (fun h=>?_) (fun h1=>?_)
  ·refine Je 3 hr1 (by omega) (by omega) rfl rfl fun u hu0 hu1=>?_;obtain⟨f,q,e,q1,q2,f1,f2⟩:=Q9 (hr1.go (q:=p+1+1) (by omega) (by omega)) (by omega);refine Jtz (args:=[.s (Ja bs),dI (p+1+1)]) rfl rfl e rfl ?_;exact Jt0 ⟨⟨1,0,i64.wrap (1+u),f⟩,q,rfl,by omega,by omega,by simp[KD,f1,f2]⟩
  refine Jty (v=2) rfl (fun h=>?_) (fun h2=>?_)
  ·obtain⟨f,q,e,q1,q2,f1,f2⟩:=Q9 hr1 (by omega);refine Jtz (args:=[.s (Ja bs),dI (p+1)]) rfl rfl e rfl ?_;refine Je 3 (hr.go (q:=q) (by omega) (by omega)) (by omega) (by omega) rfl rfl fun u hu0 hu1=>?_;refine Jty (0<u) rfl (fun hu=>?_) (fun hu=>?_)
   ·refine Je 3 (hr.go (q:=q+1) (by omega) (by omega)) (by omega) (by omega) rfl rfl fun w hw0 hw1=>?_;exact Jt0 ⟨⟨2,w,0,⟨[0,0,0],f.d,f.k⟩⟩,q+1+1,rfl,by omega,by omega,by simp[KD,f1,f2]⟩
   ·refine Je 3 (hr.go (q:=q+1) (by omega) (by omega)) (by omega) (by omega) rfl rfl fun w hw0 hw1=>?_;exact Jt0 ⟨⟨2,w,0,f⟩,q+1+1,rfl,by omega,by omega,by simp[KD,f1,f2]⟩
  refine Jty (v=3) rfl (fun h=>?_) (fun h3=>?_)
  ·obtain⟨f,q,e,q1,q2,f1,f2⟩:=Q9 hr1 (by omega);refine Jtz (args:=[.s (Ja bs),dI (p+1)]) rfl rfl e rfl ?_;refine Je 3 (hr.go (q:=q) (by omega) (by omega)) (by omega) (by omega) rfl rfl fun u hu0 hu1=>?_;refine Jty (0<u) rfl (fun hu=>?_) (fun hu=>?_)
   ·refine Je 3 (hr.go (q:=q+1) (by omega) (by omega)) (by omega) (by omega) rfl rfl fun w hw0 hw1=>?_;exact Jt0 ⟨⟨2,w,0,⟨[0,0,0],f.d,f.k⟩⟩,q+1+1,rfl,by omega,by omega,by simp[KD,f1,f2]⟩
   ·refine Je 3 (hr.go (q:=q+1) (by omega) (by omega)) (by omega) (by omega) rfl rfl fun w hw0 hw1=>?_;exact Jt0 ⟨⟨2,w,0,f⟩,q+1+1,rfl,by omega,by omega,by simp[KD,f1,f2]⟩
  refine Jty (v=4) rfl (fun h=>?_) (fun h4=>?_)
  ·obtain⟨f,q,e,q1,q2,f1,f2⟩:=Q9 hr1 (by omega);refine Jtz (args:=[.s (Ja bs),dI (p+1)]) rfl rfl e rfl ?_;refine Je 3 (hr.go (q:=q) (by omega) (by omega)) (by omega) (by omega) rfl rfl fun u hu0 hu1=>?_;refine Jty (0<u) rfl (fun hu=>?_) (fun hu=>?_)
   ·refine Je 3 (hr.go (q:=q+1) (by omega) (by omega)) (by omega) (by omega) rfl rfl fun w hw0 hw1=>?_;exact Jt0 ⟨⟨2,w,0,⟨[0,0,0],f.d,f.k⟩⟩,q+1+1,rfl,by omega,by omega,by simp[KD,f1,f2]⟩
   ·refine Je 3 (hr.go (q:=q+1) (by omega) (by omega)) (by omega) (by omega) rfl rfl fun w hw0 hw1=>?_;exact Jt0 ⟨⟨2,w,0,f⟩,q+1+1,rfl,by omega,by omega,by simp[KD,f1,f2]⟩
  refine Jty (v=5) rfl (fun h=>?_) (fun h5=>?_)
  ·obtain⟨f,q,e,q1,q2,f1,f2⟩:=Q9 hr1 (by omega);refine Jtz (args:=[.s (Ja bs),dI (p+1)]) rfl rfl e rfl ?_;exact Jt0 ⟨⟨3,0,0,f⟩,q,rfl,by omega,by omega,by simp[KD,f1,f2]⟩
  exact Jt0 ⟨⟨4,0,0,⟨[],[],0⟩⟩,p+1,rfl,by omega,by omega,by simp[KD]⟩
 obtain⟨ds,e1,l,q,rfl,e2⟩:=key;exact⟨l,q,e1,e2⟩
/- What draws of acts come to. -/
theorem Jns (a:List Jg):Yb 6 (Jl a)=true:=by cases a <;> rfl
theorem KG (a:List Jg) (l:Jg):Jl a++[l.g]=Jl (a++[l]):=by simp[Jl]
def JbZ (a:List Jg):Prop:=a.length≤5∧(∀l∈a,KD l)∧Qp a=true
theorem JbZ.fit {a:List Jg} (h:JbZ a):KB a:=⟨by have:=h.1;omega,fun l hl=>⟨by have:=(h.2.1 l hl).1;omega,by have:=(h.2.1 l hl).2;omega⟩⟩
theorem JfD {bs:List Int} {p:Int} (hr:Rdr bs p) (hf:p≤999999970000) :
  ∃ (a:List Jg) (q:Int),Ev L f_kc [.s (Ja bs),dI p] [.s (Jl a),.s (Ja bs),dI q]∧p≤q∧q≤p+200∧JbZ a:=by
 have key : ∃ ds,Ev L f_kc [.s (Ja bs),dI p] ds∧∃ (a:List Jg) (q:Int),ds=[.s (Jl a),.s (Ja bs),dI q]∧p≤q∧q≤p+200∧JbZ a:=by
  refine Jt4 (vs:=[.l (Ja bs),.i p]) L_kc rfl ?_;refine Je 2 hr (by omega) (by omega) rfl rfl fun v hv0 hv1=>?_;refine Je 8 (hr.go (q:=p+1) (by omega) (by omega)) (by omega) (by omega) rfl rfl fun u hu0 hu1=>?_;have hw:v<(([0,0,0]:List Int).length:Int):=by simp;omega
  have hv01:v=0∨v=1:=by omega
  have n1:=ZK (-1) 0 0;have n2:=ZK 1 0 0;have n3:=ZK 1 0 (-9);refine Jty (u=0) rfl (fun h=>?_) (fun h0=>?_)
  ·refine Jtz (args:=[dI (-1),dI 0,dI 0]) rfl rfl n1 rfl ?_;refine Jtz (args:=[.s (dL [0,0,0]),.s (dL [-1,0]),dI 0,dI v,dI 1]) rfl rfl (YT ⟨[0,0,0],[-1,0],0⟩ v 1 hv0 hw) rfl ?_;refine Jtz (args:=[dI (-1),dI 0,dI 0]) rfl rfl n1 rfl ?_;refine Jtz (args:=[dI 1,dI 0,dI 0]) rfl rfl n2 rfl ?_;refine Jtz (args:=[dI 1,dI 0,dI (-9)]) rfl rfl n3 rfl ?_;exact Jt0 ⟨[⟨1,0,2,⟨[0,0,0].set v.toNat 1,[-1,0],0⟩⟩,⟨2,v,0,⟨[0,0,0],[-1,0],0⟩⟩,⟨3,0,0,⟨[0,0,0],[1,0],0⟩⟩,⟨1,0,1,⟨[0,0,0],[1,0],-9⟩⟩,⟨4,0,0,⟨[],[],0⟩⟩],p+1+1,rfl,by omega,by omega,by simp,by simp[KD],by rcases hv01 with rfl | rfl <;> decide⟩
  refine Jty (u=1) rfl (fun h=>?_) (fun h1=>?_)
  ·refine Jtz (args:=[dI (-1),dI 0,dI 0]) rfl rfl n1 rfl ?_;refine Jtz (args:=[.s (dL [0,0,0]),.s (dL [-1,0]),dI 0,dI v,dI 1]) rfl rfl (YT ⟨[0,0,0],[-1,0],0⟩ v 1 hv0 hw) rfl ?_;refine Jtz (args:=[dI (-1),dI 0,dI 0]) rfl rfl n1 rfl ?_;refine Jtz (args:=[dI 1,dI 0,dI 0]) rfl rfl n2 rfl ?_;refine Jtz (args:=[dI 1,dI 0,dI (-9)]) rfl rfl n3 rfl ?_;exact Jt0 ⟨[⟨1,0,2,⟨[0,0,0].set v.toNat 1,[-1,0],0⟩⟩,⟨2,v,0,⟨[0,0,0],[-1,0],0⟩⟩,⟨3,0,0,⟨[0,0,0],[1,0],0⟩⟩,⟨1,0,1,⟨[0,0,0],[1,0],-9⟩⟩,⟨4,0,0,⟨[],[],0⟩⟩],p+1+1,rfl,by omega,by omega,by simp,by simp[KD],by rcases hv01 with rfl | rfl <;> decide⟩
  refine Jty (u=2) rfl (fun h=>?_) (fun h2=>?_)
  ·refine Jtz (args:=[dI 1,dI 0,dI 0]) rfl rfl n2 rfl ?_;exact Jt0 ⟨[⟨2,v,0,⟨[0,0,0],[1,0],0⟩⟩],p+1+1,rfl,by omega,by omega,by simp,by simp[KD],by rcases hv01 with rfl | rfl <;> decide⟩
  refine Jty (u=3) rfl (fun h=>?_) (fun h3=>?_)
  ·refine Jtz (args:=[dI (-1),dI 0,dI 0]) rfl rfl n1 rfl ?_;refine Jtz (args:=[.s (dL [0,0,0]),.s (dL [-1,0]),dI 0,dI v,dI 1]) rfl rfl (YT ⟨[0,0,0],[-1,0],0⟩ v 1 hv0 hw) rfl ?_;refine Jtz (args:=[dI (-1),dI 0,dI 0]) rfl rfl n1 rfl ?_;refine Jtz (args:=[dI 1,dI 0,dI 0]) rfl rfl n2 rfl ?_;exact Jt0 ⟨[⟨1,0,2,⟨[0,0,0].set v.toNat 1,[-1,0],0⟩⟩,⟨2,v,0,⟨[0,0,0],[-1,0],0⟩⟩,⟨2,i64.wrap (1-v),0,⟨[0,0,0],[1,0],0⟩⟩],p+1+1,rfl,by omega,by omega,by simp,by simp[KD],by rcases hv01 with rfl | rfl <;> decide⟩
  refine Jty (u=4) rfl (fun h=>?_) (fun h4=>?_)
  ·refine Jtz (args:=[dI 0,dI 0,dI 0]) rfl rfl (ZK 0 0 0) rfl ?_;refine Jtz (args:=[.s (dL [0,0,0]),.s (dL [0,0]),dI 0,dI 2,dI 1]) rfl rfl (YT ⟨[0,0,0],[0,0],0⟩ 2 1 (by omega) (by simp)) rfl ?_;exact Jt0 ⟨[⟨3,0,0,⟨[0,0,0].set 2 1,[0,0],0⟩⟩],p+1+1,rfl,by omega,by omega,by simp,by simp[KD],by rcases hv01 with rfl | rfl <;> decide⟩
  refine Jty (u=5) rfl (fun h=>?_) (fun h5=>?_)
  ·refine Jtz (args:=[dI 0,dI 1,dI 5]) rfl rfl (ZK 0 1 5) rfl ?_;refine Jtz (args:=[.s (dL [0,0,0]),.s (dL [0,1]),dI 5,dI 0,dI 1]) rfl rfl (YT ⟨[0,0,0],[0,1],5⟩ 0 1 (by omega) (by simp)) rfl ?_;refine Jtz (args:=[.s (dL [1,0,0]),.s (dL [0,1]),dI 5,dI 1,dI (-1)]) rfl rfl (YT ⟨[1,0,0],[0,1],5⟩ 1 (-1) (by omega) (by simp)) rfl ?_;refine Jtz (args:=[dI 0,dI 0,dI 1]) rfl rfl (ZK 0 0 1) rfl ?_;exact Jt0 ⟨[⟨1,0,1,⟨[1,-1,0],[0,1],5⟩⟩,⟨2,2,0,⟨[0,0,0],[0,0],1⟩⟩],p+1+1,rfl,by omega,by omega,by simp,by simp[KD],by rcases hv01 with rfl | rfl <;> decide⟩
  refine Je 5 (hr.go (q:=p+1+1) (by omega) (by omega)) (by omega) (by omega) rfl rfl fun w hw0 hw1=>?_;refine JtL (fun m vs=>∃ (a:List Jg) (k o:Int),vs=[.l (Jl a),.i k,.i o,.l (Ja bs)]∧p+3≤o∧o+20*k≤p+3+100∧0≤k∧k≤5∧(m:Int)=k∧(a.length:Int)+k≤5∧Qp a=true∧∀l∈a,KD l) rfl (1+w).toNat
   ⟨[],1+w,p+1+1+1,?_,by omega,by omega,by omega,by omega,by omega,by simp;omega,rfl,fun x hx=>by simp at hx⟩ ?_
  ·show [V.l [],V.i (i64.wrap (1+w)),V.i (p+1+1+1),V.l (Ja bs)]=_;rw[w64 (by omega) (by omega)];rfl
  rintro m _ ⟨a,k,o,rfl,o1,o2,k0,k5,hm,hl,hak,hs⟩;refine Jty (0<k) rfl (fun h=>?_) (fun h=>JtA (Jt0 ⟨a,o,rfl,by omega,by omega,by omega,hs,hak⟩));obtain⟨x,q,ex,q1,q2,hx⟩:=Jke (hr.go (q:=o) (by omega) (by omega)) (by omega);refine Jtz (args:=[.s (Ja bs),dI o]) rfl rfl ex rfl ?_;have hs' :∀l∈a++[x],KD l:=by
   intro l hl';rcases Jue.1 hl' with h' | h'
   ·exact hs l h'
   ·simp at h';subst h';exact hx
  have hfit:KB (a++[x]):=⟨by simp;omega,fun l hl'=>⟨by have:=(hs' l hl').1;omega,by have:=(hs' l hl').2;omega⟩⟩;refine JtD (Jl a) rfl (by rw[JN];omega) ?_;refine JtH (Jns a) ?_;refine JtD (Jl a) rfl (by rw[JN];omega) ?_;refine JtD (Jl a++[x.g]) rfl (by rw[KG,JN];simp;omega) ?_;refine Jtz (args:=[.s (Jl (a++[x]))]) rfl ?_ (JaB (a++[x]) hfit) rfl ?_
  ·show [D.s (([]++Jl a)++[x.g])]=_;rw[List.nil_append,KG]
  refine JtG (Qp (a++[x])) rfl (fun hok=>?_) (fun hok=>?_)
  ·refine JtD (Jl a++[x.g]) rfl (by rw[KG,JN];simp;omega) ?_;refine JtK (vs:=[.l (Jl (a++[x])),.i (k-1),.i q,.l (Ja bs)]) ?_ ⟨m-1,by omega,a++[x],k-1,q,rfl,by omega,by omega,by omega,by omega,by omega,by simp;omega,hok,hs'⟩;show [V.l (Jl a++[x.g]),V.i (i64.wrap (k-1)),V.i q,V.l (Ja bs)]=_;rw[KG,w64 (by omega) (by omega)]
  ·refine JtK (vs:=[.l (Jl a),.i (k-1),.i q,.l (Ja bs)]) ?_ ⟨m-1,by omega,a,k-1,q,rfl,by omega,by omega,by omega,by omega,by omega,by omega,hak,hs⟩;show [V.l (Jl a),V.i (i64.wrap (k-1)),V.i q,V.l (Ja bs)]=_;rw[w64 (by omega) (by omega)]
 obtain⟨ds,e1,a,q,rfl,e2⟩:=key;exact⟨a,q,e1,e2⟩
theorem WW (as:List (List Jg)) (a:List Jg):Jd as++[.s (Jl a)]=Jd (as++[a]):=by simp[Jd]
def Jgf (as:List (List Jg)):Prop:=as.length≤4∧∀a∈as,JbZ a
theorem Jdi {bs:List Int} {p:Int} (hr:Rdr bs p) (hf:p≤999999960000) :
  ∃ (as:List (List Jg)) (q:Int),Ev L f_kd [.s (Ja bs),dI p] [.s (Jd as),.s (Ja bs),dI q]∧p≤q∧q≤p+1000∧Jgf as∧1≤as.length:=by
 have key : ∃ ds,Ev L f_kd [.s (Ja bs),dI p] ds∧∃ (as:List (List Jg)) (q:Int),ds=[.s (Jd as),.s (Ja bs),dI q]∧p≤q∧q≤p+1000∧Jgf as∧1≤as.length:=by
  refine Jt4 (vs:=[.l (Ja bs),.i p]) L_kd rfl ?_;refine Je 4 hr (by omega) (by omega) rfl rfl fun w hw0 hw1=>?_;refine JtL (fun m vs=>∃ (as:List (List Jg)) (k o:Int),vs=[.l (Jd as),.i k,.i o,.l (Ja bs)]∧p+1≤o∧o+200*k≤p+1+800∧0≤k∧k≤4∧(m:Int)=k∧(as.length:Int)+k=1+w∧∀a∈as,JbZ a) rfl (1+w).toNat
   ⟨[],1+w,p+1,?_,by omega,by omega,by omega,by omega,by omega,by simp,fun x hx=>by simp at hx⟩ ?_
  ·show [V.l [],V.i (i64.wrap (1+w)),V.i (p+1),V.l (Ja bs)]=_;rw[w64 (by omega) (by omega)];rfl
  rintro m _ ⟨as,k,o,rfl,o1,o2,k0,k5,hm,hl,hs⟩;refine Jty (0<k) rfl (fun h=>?_) (fun h=>JtA (Jt0 ⟨as,o,rfl,by omega,by omega,⟨by omega,hs⟩,by omega⟩));obtain⟨x,q,ex,q1,q2,hx⟩:=JfD (hr.go (q:=o) (by omega) (by omega)) (by omega);refine Jtz (args:=[.s (Ja bs),dI o]) rfl rfl ex rfl ?_;refine JtD (Jd as++[.s (Jl x)]) rfl (by rw[WW,JK];simp;omega) ?_;refine JtK (vs:=[.l (Jd (as++[x])),.i (k-1),.i q,.l (Ja bs)]) ?_ ⟨m-1,by omega,as++[x],k-1,q,rfl,by omega,by omega,by omega,by omega,by omega,by simp;omega,?_⟩
  ·show [V.l (Jd as++[.s (Jl x)]),V.i (i64.wrap (k-1)),V.i q,V.l (Ja bs)]=_;rw[WW,w64 (by omega) (by omega)]
  ·intro a ha;rcases Jue.1 ha with h' | h'
   ·exact hs a h'
   ·simp at h';subst h';exact hx
 obtain⟨ds,e1,a,q,rfl,e2⟩:=key;exact⟨a,q,e1,e2⟩
/- What sums of forms and the ways through an act come to: the reference's. -/
theorem We {x y n M N:Int} (hx : -M≤x∧x≤M) (hy : -M≤y∧y≤M) (hn : -N≤n∧n≤N) (hM:M≤1000000000) (hN:N≤1000000000):i64.wrap (x+i64.wrap (n*y))=x+n*y:=by
 have h:=Kx (A:=1000000000) (B:=1000000000) (n:=n) (y:=y) (by omega) (by omega);rw[w64 (n:=n*y) (by omega) (by omega),w64 (by omega) (by omega)]
theorem UR {a b:Frm} {n M:Int} (ha:Std M a) (hb:Std M b) (hM:M≤1000000000) (hn : -1000000000≤n∧n≤1000000000) :
  Ev L f_kv (a.cells++b.cells++[dI n]) (JU a b n).cells:=by
 refine Jt7 (vs:=[.l (dL a.c),.l (dL a.d),.i a.k,.l (dL b.c),.l (dL b.d),.i b.k,.i n]) L_kv rfl ?_;refine Jtz (args:=[]) rfl rfl XL rfl ?_;have hc:=ha.c;have hc':=hb.c;have hd:=ha.d;have hd':=hb.d;have hS:(J3 a.c b.c n).length=3:=by rw[VF];omega
 have hT:(J3 a.d b.d n).length=2:=by rw[VF];omega
 refine JtL (fun m vs=>∃ i:Nat,i≤3∧m=3-i∧vs=[.l (dL ((J3 a.c b.c n).take i++([0,0,0]:List Int).drop i)),.i i]) rfl 3 ⟨0,by omega,rfl,rfl⟩ ?_;rintro m _ ⟨i,hi,hm,rfl⟩;refine Jty ((i:Int)<3) rfl (fun h=>?_) (fun h=>?_)
 ·refine JtJ (ds:=dL a.c) i rfl rfl rfl (by omega) (J1 (by omega) (by omega)) rfl ?_;refine JtJ (ds:=dL b.c) i rfl rfl rfl (by omega) (J1 (by omega) (by omega)) rfl ?_;refine JtP ((0:Int)≤i) rfl (by omega) ?_;have hlen:((J3 a.c b.c n).take i++([0,0,0]:List Int).drop i).length=3:=by simp[hS];omega
  refine JtP ((i:Int)<((dL ((J3 a.c b.c n).take i++([0,0,0]:List Int).drop i)).length:Int)) rfl (by rw[dL1,hlen];omega) ?_;refine JtJ (ds:=dL ((J3 a.c b.c n).take i++([0,0,0]:List Int).drop i)) i rfl rfl rfl (by omega) (J1 (by omega) (by omega)) rfl ?_;refine JtK (vs:=[.l (dL ((J3 a.c b.c n).take (i+1)++([0,0,0]:List Int).drop (i+1))),.i ((i+1:Nat):Int)]) ?_ ⟨m-1,by omega,i+1,by omega,by omega,rfl⟩;show [V.l ((dL ((J3 a.c b.c n).take i++([0,0,0]:List Int).drop i)).set (i:Int).toNat (dI (i64.wrap (a.c.getD (i:Int).toNat 0+i64.wrap (n*b.c.getD (i:Int).toNat 0))))),V.i (i64.wrap ((i:Int)+1))]=_;have hx:=XC ha.lc (k:=(i:Int).toNat) (by omega);have hy:=XC hb.lc (k:=(i:Int).toNat) (by omega);rw[We hx hy hn hM (by omega),QH,Int.toNat_natCast,fill (by rw[hS];rfl),w64 (by omega) (by omega)]
  ·rfl
  ·exact Jie (by omega) (by omega)
 refine JtA ?_;have hi3:i=3:=by omega
 subst hi3;rw[Jud (by omega),show ([0,0,0]:List Int).drop 3=[] from rfl,List.append_nil];refine JtL (fun m vs=>∃ i:Nat,i≤2∧m=2-i∧vs=[.l (dL ((J3 a.d b.d n).take i++([0,0]:List Int).drop i)),.i i]) rfl 2 ⟨0,by omega,rfl,rfl⟩ ?_;rintro m _ ⟨i,hi,hm,rfl⟩;refine Jty ((i:Int)<2) rfl (fun h=>?_) (fun h=>?_)
 ·refine JtJ (ds:=dL a.d) i rfl rfl rfl (by omega) (J1 (by omega) (by omega)) rfl ?_;refine JtJ (ds:=dL b.d) i rfl rfl rfl (by omega) (J1 (by omega) (by omega)) rfl ?_;refine JtP ((0:Int)≤i) rfl (by omega) ?_;have hlen:((J3 a.d b.d n).take i++([0,0]:List Int).drop i).length=2:=by simp[hT];omega
  refine JtP ((i:Int)<((dL ((J3 a.d b.d n).take i++([0,0]:List Int).drop i)).length:Int)) rfl (by rw[dL1,hlen];omega) ?_;refine JtJ (ds:=dL ((J3 a.d b.d n).take i++([0,0]:List Int).drop i)) i rfl rfl rfl (by omega) (J1 (by omega) (by omega)) rfl ?_;refine JtK (vs:=[.l (dL ((J3 a.d b.d n).take (i+1)++([0,0]:List Int).drop (i+1))),.i ((i+1:Nat):Int)]) ?_ ⟨m-1,by omega,i+1,by omega,by omega,rfl⟩;show [V.l ((dL ((J3 a.d b.d n).take i++([0,0]:List Int).drop i)).set (i:Int).toNat (dI (i64.wrap (a.d.getD (i:Int).toNat 0+i64.wrap (n*b.d.getD (i:Int).toNat 0))))),V.i (i64.wrap ((i:Int)+1))]=_;have hx:=XC ha.ld (k:=(i:Int).toNat) (by omega);have hy:=XC hb.ld (k:=(i:Int).toNat) (by omega);rw[We hx hy hn hM (by omega),QH,Int.toNat_natCast,fill (by rw[hT];rfl),w64 (by omega) (by omega)]
  ·rfl
  ·exact Jie (by omega) (by omega)
 refine JtA ?_;have hi2:i=2:=by omega
 subst hi2;rw[Jud (by omega),show ([0,0]:List Int).drop 2=[] from rfl,List.append_nil];refine Jt0 ?_;show [D.s (dL (J3 a.c b.c n)),.s (dL (J3 a.d b.d n)),dI (i64.wrap (a.k+i64.wrap (n*b.k)))]=_;rw[We ha.k hb.k hn hM (by omega)];rfl
theorem ZL (v:Int) (h0:0≤v) (h2:v≤2):Ev L f_ku [dI v] (JA v.toNat).cells:=by
 refine Jt7 (vs:=[.i v]) L_ku rfl ?_;refine Jtz (args:=[dI v,dI 0,dI 2]) rfl rfl (JP v 0 2) rfl ?_;refine JtN (by show (!(inB v 0 2))=false;simp[inB,h0,h2]) ?_;refine Jtz (args:=[]) rfl rfl XL rfl ?_;refine JtP (0≤v) rfl h0 ?_;refine JtP (v<3) rfl (by omega) ?_;refine JtJ (ds:=dL [0,0,0]) v rfl rfl rfl h0 (J1 h0 (by simp;omega)) rfl ?_;refine Jt0 ?_;show [D.s ((dL [0,0,0]).set v.toNat (dI 1)),.s (dL [0,0]),dI 0]=_;rw[QH];rfl
theorem Yz {l:List Frm} {M:Int} (hl:l.length≤2000000) (hs :∀f∈l,Std M f) (h0:0≤M) (hM:M≤1000000000):Ev L f_kw [.s (dF l)] [.s (dF l)]:=by
 refine Jt7 (vs:=[.l (dF l)]) L_kw rfl ?_;refine JtL (fun m vs=>∃ i:Int,0≤i∧i≤l.length∧(m:Int)=l.length-i∧vs=[.l (dF (l.take i.toNat)),.i i]) rfl l.length ⟨0,by omega,by omega,by omega,rfl⟩ ?_;rintro m _ ⟨i,i0,i1,hm,rfl⟩;refine Jty (i<((dF l).length:Int)) rfl (fun hi=>?_) (fun hi=>?_)
 ·rw[J0] at hi;refine Jtz (args:=[]) rfl rfl XL rfl ?_;obtain⟨x,hx,hd⟩:=Jbk i0 hi;have hsx:=hs x (Jug hx);refine JtJ (ds:=dF l) i rfl rfl rfl i0 hd rfl ?_;have e:=UR (Xi.mono h0) hsx hM (n:=1) (by omega);rw[Jfm hsx] at e;refine Jtz (args:=Frm.zero.cells++x.cells++[dI 1]) rfl rfl e rfl ?_;refine JtD (dF (l.take i.toNat)++[x.g]) rfl (by rw[Xg,J0];simp;omega) ?_;refine JtK (vs:=[.l (dF (l.take (i+1).toNat)),.i (i+1)]) ?_ ⟨m-1,by omega,i+1,by omega,by omega,by omega,rfl⟩;show [V.l (dF (l.take i.toNat)++[x.g]),V.i (i64.wrap (i+1))]=_;rw[Xg,show (i+1).toNat=i.toNat+1 by omega,tS1 hx,w64 (by omega) (by omega)]
 ·rw[J0] at hi;refine JtA (Jt0 ?_);show [D.s (dF (l.take i.toNat))]=_;rw[Jud (by omega)]
theorem Jko {f:Frm} {M:Int} (hf:Std M f) (h0:0≤M) (hM:M≤100000000):Ev L f_kz f.cells (QU f).cells:=by
 refine Jt7 (vs:=[.l (dL f.c),.l (dL f.d),.i f.k]) L_kz rfl ?_;refine Jtz (args:=[]) rfl rfl XL rfl ?_;refine Jtz (args:=Frm.zero.cells++f.cells++[dI (-1)]) rfl rfl (UR (Xi.mono h0) hf (by omega) (by omega)) rfl ?_;refine Jt0 ?_;have hk:=(QT Xi hf (n:=-1) (N:=1) (by omega)).k;show [D.s (dL (JU Frm.zero f (-1)).c),.s (dL (JU Frm.zero f (-1)).d),dI (i64.wrap ((JU Frm.zero f (-1)).k-1))]=_;rw[w64 (by omega) (by omega)];rfl
theorem JjM {f:Frm} {pots:List Frm} {M:Int} (hf:f.small=true) (hl:pots.length=3) (hp :∀p∈pots,Std M p) (h0:0≤M) (hM:M≤1000000) :
  Ev L f_ky (f.cells++[.s (dF pots)]) (Jv f pots).cells:=by
 obtain⟨f1,f2,f3,f4,f5⟩:=Xy hf;have hfs:=Jft hf;refine Jt7 (vs:=[.l (dL f.c),.l (dL f.d),.i f.k,.l (dF pots)]) L_ky rfl ?_;have ok :∀g:Frm,Std (20+6*M) g→Ev L f_kx g.cells [dB true]:=fun g hg=>by
  have:=JhX g hg.fit
  rwa [hg.okF (by omega)] at this
 refine Jtz (args:=f.cells) rfl rfl (ok f (hfs.mono (by omega))) rfl ?_;refine JtN rfl ?_;have c0:bol (Jn ([V.l (dL f.c),V.l (dL f.d),V.i f.k,V.l (dF pots)]++[V.b true])) (.not (.cmp .eq (.len (.v 3)) (.z 3)))=decide (¬(pots.length:Int)=3):=by
  simp[bol,den,V.bool,V.int,V.lst,CO.sem,Jn,J0]
 refine Jty (¬(pots.length:Int)=3) c0 (fun h=>by omega) (fun _=>?_);obtain⟨p0,h00,d0⟩:=Jbk (l:=pots) (i:=0) (by omega) (by omega);obtain⟨p1,h11,d1⟩:=Jbk (l:=pots) (i:=1) (by omega) (by omega);obtain⟨p2,h22,d2⟩:=Jbk (l:=pots) (i:=2) (by omega) (by omega);refine JtJ (ds:=dF pots) 0 rfl rfl rfl (by omega) d0 rfl ?_;refine Jtz (args:=p0.cells) rfl rfl (ok p0 ((hp p0 (Jug h00)).mono (by omega))) rfl ?_;refine JtN rfl ?_;refine JtJ (ds:=dF pots) 1 rfl rfl rfl (by omega) d1 rfl ?_;refine Jtz (args:=p1.cells) rfl rfl (ok p1 ((hp p1 (Jug h11)).mono (by omega))) rfl ?_;refine JtN rfl ?_;refine JtJ (ds:=dF pots) 2 rfl rfl rfl (by omega) d2 rfl ?_;refine Jtz (args:=p2.cells) rfl rfl (ok p2 ((hp p2 (Jug h22)).mono (by omega))) rfl ?_;refine JtN rfl ?_;refine JtD (dL f.d) rfl (by rw[dL1];omega) ?_;refine JtH (by show Yb 1 (dL f.d)=true;cases f.d <;> rfl) ?_;refine JtD (dL f.d) rfl (by rw[dL1];omega) ?_
 let acc:Nat→Frm:=fun i=>(List.zip (pots.take i) (f.c.take i)).foldl (fun x q=>JU x q.1 q.2) ⟨[0,0,0],f.d,f.k⟩
 have hacc :∀i,i≤3→Std (20+6*M) (acc i):=fun i hi=>by
  rcases JdH hf hp h0 i hi with h | h
  ·refine h.mono ?_;have:2*M*(i:Int)≤2*M*3:=Int.mul_le_mul_of_nonneg_left (by omega) (by omega);omega
  ·omega
 refine JtL (fun m vs=>∃ i:Nat,i≤3∧m=3-i∧vs=[.l (dL (acc i).c),.l (dL (acc i).d),.i i,.i (acc i).k]) rfl 3 ⟨0,by omega,rfl,rfl⟩ ?_;rintro m _ ⟨i,hi,hm,rfl⟩;refine Jty ((i:Int)<3) rfl (fun h=>?_) (fun h=>?_)
 ·obtain⟨x,hx,hd⟩:=Jbk (l:=pots) (i:=(i:Int)) (by omega) (by omega);have hsx:=hp x (Jug hx);refine JtJ (ds:=dF pots) i rfl rfl rfl (by omega) hd rfl ?_;refine JtJ (ds:=dL f.c) i rfl rfl rfl (by omega) (J1 (by omega) (by omega)) rfl ?_;have hy:=XC f3 (k:=(i:Int).toNat) (by omega);have hn:acc (i+1)=JU (acc i) x (f.c.getD (i:Int).toNat 0):=by
   rw[Int.toNat_natCast] at hx;have e2:f.c[i]? = some (f.c.getD (i:Int).toNat 0):=by simp[Juc,show i<f.c.length by omega]
   simp only[acc];rw[tS1 hx,tS1 e2,List.zip_append (by simp;omega),List.foldl_append];rfl
  refine Jtz (args:=(acc i).cells++x.cells++[dI (f.c.getD (i:Int).toNat 0)]) rfl rfl (UR (hacc i hi) (hsx.mono (by omega)) (by omega) (by omega)) rfl ?_;refine JtK (vs:=[.l (dL (acc (i+1)).c),.l (dL (acc (i+1)).d),.i ((i+1:Nat):Int),.i (acc (i+1)).k]) ?_ ⟨m-1,by omega,i+1,by omega,by omega,rfl⟩;rw[hn];show [V.l _,V.l _,V.i (i64.wrap ((i:Int)+1)),V.i _]=_;rw[w64 (by omega) (by omega)];rfl
 refine JtA ?_;have hi3:i=3:=by omega
 subst hi3;refine Jtz (args:=(acc 3).cells) rfl rfl (ok _ (hacc 3 (by omega))) rfl ?_;refine JtN rfl ?_;refine Jt0 ?_;show (acc 3).cells=_;simp only[acc];rw[Jud (by omega),Jud (by omega)];rfl
end Go.Proofs.YtngcnclchcahlaaGreatDoor
