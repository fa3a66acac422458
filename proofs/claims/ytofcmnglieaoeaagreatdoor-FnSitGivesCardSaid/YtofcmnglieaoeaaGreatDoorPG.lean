import Derived.Test.YtofcmnglieaoeaaGreatDoorR
import Derived.Test.YtofcmnglieaoeaaGreatDoorTd
set_option linter.unusedVariables false
set_option linter.unusedSimpArgs false
/- What the draws come to: a reader's picks,and what is drawn by them. -/
namespace Go.Proofs.YtofcmnglieaoeaaGreatDoor
open Go Go.Tm
open Go.IntKind (i64)
structure Rdr (bs:List Int) (p:Int):Prop where
 byte :∀x∈bs,0≤x∧x<256
 len:bs.length≤2000
 pos:0≤p
 far:p≤1000000000000
theorem V8 {bs:List Int} {p n:Int} (hr:Rdr bs p) (hn:n≤2000000) :
  ∃ v,Ev L f_k1 [.s (Ja bs),dI p,dI n] [dI v,.s (Ja bs),dI (p+1)]∧(n<1→v=0)∧(1≤n→0≤v∧v<n):=by
 have hp:=hr.pos;have hf:=hr.far;have hl:=hr.len;have w1:i64.wrap (p+1)=p+1:=w64 (by omega) (by omega);have w2:i64.wrap (p+1-1)=p:=by rw[w64 (by omega) (by omega)];omega
 have key : ∃ ds,Ev L f_k1 [.s (Ja bs),dI p,dI n] ds∧∃ v,ds=[dI v,.s (Ja bs),dI (p+1)]∧(n<1→v=0)∧(1≤n→0≤v∧v<n):=by
  refine Jue (vs:=[.l (Ja bs),.i p,.i n]) L_k1 rfl ?_;have hend :∀v:Int,[dI v,.s (Ja bs),dI (i64.wrap (p+1))]=[dI v,.s (Ja bs),dI (p+1)]:=fun v=>by rw[w1]
  refine Jt2 (n<1) rfl (fun h=>Jt9 ⟨0,hend 0,fun _=>rfl,fun h'=>by omega⟩) (fun h=>?_);refine Jt2 (((Ja bs).length:Int)=0) rfl (fun h'=>Jt9 ⟨0,hend 0,fun _=>rfl,fun h'=>by omega⟩) (fun h0=>?_);rw[QZ] at h0;refine Jt2 (i64.wrap (i64.wrap (p+1)-1)<((Ja bs).length:Int)) rfl (fun h1=>?_) (fun h1=>?_)
  ·rw[w1,w2,QZ] at h1;have hb:=XI hr.byte (show p.toNat<bs.length by omega);refine JtJ (ds:=Ja bs) p rfl rfl (show i64.wrap (i64.wrap (p+1)-1)=p by rw[w1,w2]) hp (WB hp h1) rfl ?_;refine JtF (¬n=0) (by simp[bol,den,V.bool,V.int,CO.sem,Jm]) (by omega) ?_;refine Jt9 ⟨(i64.wrap (bs.getD p.toNat 0)).tmod n,hend _,fun h'=>absurd h' h,fun h'=>?_⟩;rw[w64 (by omega) (by omega),Int.tmod_eq_emod_of_nonneg hb.1];exact⟨Int.emod_nonneg _ (by omega),Int.emod_lt_of_pos _ (by omega)⟩
  ·have hw:i64.wrap (i64.wrap (p+1)-1)=p:=by rw[w1,w2]
   have hlp:0<(bs.length:Int):=by omega
   have hm1:0≤p.tmod bs.length∧p.tmod bs.length<bs.length:=by
    rw[Int.tmod_eq_emod_of_nonneg hp];exact⟨Int.emod_nonneg _ (by omega),Int.emod_lt_of_pos _ hlp⟩
   have hq:0≤i64.wrap (i64.wrap (p*7)+3):=by rw[w64 (n:=p*7) (by omega) (by omega),w64 (by omega) (by omega)];omega
   have hm2:0≤(i64.wrap (i64.wrap (p*7)+3)).tmod bs.length∧(i64.wrap (i64.wrap (p*7)+3)).tmod bs.length<bs.length:=by
    rw[Int.tmod_eq_emod_of_nonneg hq];exact⟨Int.emod_nonneg _ (by omega),Int.emod_lt_of_pos _ hlp⟩
   have hb1:=XI hr.byte (show (p.tmod bs.length).toNat<bs.length by omega);have hb2:=XI hr.byte (show ((i64.wrap (i64.wrap (p*7)+3)).tmod bs.length).toNat<bs.length by omega);have c0 :∀(l:List V),bol (Jm ((.l (Ja bs)::l))) (.not (.cmp .eq (.len (.v 0)) (.z 0)))=decide (¬((Ja bs).length:Int)=0):=by
    intro l;simp[bol,den,V.bool,V.int,CO.sem,Jm,V.lst]
   refine JtF (¬((Ja bs).length:Int)=0) (c0 _) (by rw[QZ];exact h0) ?_;refine JtJ (ds:=Ja bs) (p.tmod bs.length) rfl rfl ?_ hm1.1 (WB hm1.1 hm1.2) rfl ?_
   ·show (i64.wrap (i64.wrap (p+1)-1)).tmod ((Ja bs).length:Int)=_;rw[hw,QZ]
   refine JtF (¬((Ja bs).length:Int)=0) (c0 _) (by rw[QZ];exact h0) ?_;refine JtJ (ds:=Ja bs) ((i64.wrap (i64.wrap (p*7)+3)).tmod bs.length) rfl rfl ?_ hm2.1 (WB hm2.1 hm2.2) rfl ?_
   ·show (i64.wrap (i64.wrap (i64.wrap (i64.wrap (p+1)-1)*7)+3)).tmod ((Ja bs).length:Int)=_;rw[hw,QZ]
   refine JtF (¬((Ja bs).length:Int)=0) (c0 _) (by rw[QZ];exact h0) ?_;refine JtF (¬(64:Int)=0) (by simp[bol,den,V.bool,V.int,CO.sem]) (by omega) ?_;refine JtF (¬n=0) (by simp[bol,den,V.bool,V.int,CO.sem,Jm]) (by omega) ?_;refine Jt9 ⟨_,hend _,fun h'=>absurd h' h,fun h'=>?_⟩;generalize bs.getD (p.tmod bs.length).toNat 0=b1 at *;generalize bs.getD ((i64.wrap (i64.wrap (p*7)+3)).tmod bs.length).toNat 0=b2 at *;have hd:0≤p.tdiv bs.length∧p.tdiv bs.length≤p:=by
    rw[Int.tdiv_eq_ediv_of_nonneg hp];exact⟨Int.ediv_nonneg hp (by omega),Int.ediv_le_self _ hp⟩
   have e1:i64.wrap b1=b1:=w64 (by omega) (by omega);have e2:i64.wrap b2=b2:=w64 (by omega) (by omega);have hx : ∃ x:Int,i64.wrap (i64.wrap (i64.wrap (i64.wrap (i64.wrap b1*131)+i64.wrap (i64.wrap b2*1117))+i64.wrap (i64.wrap (i64.wrap (p+1)-1)*29))+i64.wrap (i64.wrap ((i64.wrap (i64.wrap (p+1)-1)).tdiv ((Ja bs).length:Int))*53))=x∧0≤x∧x<2 ^ 62:=by
    rw[hw,QZ,e1,e2,w64 (n:=p.tdiv bs.length) (by omega) (by omega),w64 (n:=b1*131) (by omega) (by omega),w64 (n:=b2*1117) (by omega) (by omega),w64 (n:=p*29) (by omega) (by omega),w64 (n:=p.tdiv bs.length*53) (by omega) (by omega),
     w64 (n:=b1*131+b2*1117) (by omega) (by omega),w64 (n:=b1*131+b2*1117+p*29) (by omega) (by omega),w64 (by omega) (by omega)]
    exact⟨_,rfl,by omega,by omega⟩
   obtain⟨x,ex,hx0,hx1⟩:=hx;have main :∀z:Int,z=x→0≤(BO.sem .xor .i64 z (i64.wrap (z.tdiv 64))).tmod n∧(BO.sem .xor .i64 z (i64.wrap (z.tdiv 64))).tmod n<n:=by
    rintro z rfl;have hd64:0≤z.tdiv 64∧z.tdiv 64≤z:=by
     rw[Int.tdiv_eq_ediv_of_nonneg hx0];omega
    rw[w64 (n:=z.tdiv 64) (by omega) (by omega)];have:=Jml ⟨hx0,hx1⟩ (show 0≤z.tdiv 64∧z.tdiv 64<2 ^ 62 by omega);rw[Int.tmod_eq_emod_of_nonneg this.1];exact⟨Int.emod_nonneg _ (by omega),Int.emod_lt_of_pos _ (by omega)⟩
   exact main _ ex
 obtain⟨ds,h1,v,rfl,h2⟩:=key;exact⟨v,h1,h2⟩
/- What draws of numbers come to. -/
theorem JpT (ns:List Int) (hb :∀x∈ns,0≤x∧x<256) : ∃ bs,Ev L f_k0 [.s (Ja ns)] [.s (Ja bs),dI 0]∧Rdr bs 0:=by
 have key : ∃ ds,Ev L f_k0 [.s (Ja ns)] ds∧∃ bs,ds=[.s (Ja bs),dI 0]∧Rdr bs 0:=by
  refine Jue (vs:=[.l (Ja ns)]) L_k0 rfl ?_;refine Jt2 (2000<((Ja ns).length:Int)) rfl (fun h=>?_) (fun h=>?_)
  ·rw[QZ] at h;refine JtF (2000≤((Ja ns).length:Int)) rfl (by rw[QZ];omega) ?_;refine Jt9 ⟨ns.take 2000,?_,⟨fun x hx=>hb x (JuG hx),by simp;omega,by omega,by omega⟩⟩;show [D.s ((Ja ns).take 2000),dI 0]=_;simp[Ja,List.map_take]
  ·rw[QZ] at h;exact Jt9 ⟨ns,rfl,⟨hb,by omega,by omega,by omega⟩⟩
 obtain⟨ds,h1,bs,rfl,h2⟩:=key;exact⟨bs,h1,h2⟩
theorem Rdr.go {bs:List Int} {p q:Int} (h:Rdr bs p) (h1:p≤q) (h2:q≤1000000000000):Rdr bs q:=⟨h.byte,h.len,by have:=h.pos;omega,h2⟩
theorem JpP {bs:List Int} {p n:Int} (hr:Rdr bs p) (hf:p≤999999999000) (hn:n≤2000000) :
  ∃ l q,Ev L f_k31 [.s (Ja bs),dI p,dI n] [.s (dL l),.s (Ja bs),dI q]∧p≤q∧q≤p+10∧l.length≤4∧Lim 20000 l:=by
 have key : ∃ ds,Ev L f_k31 [.s (Ja bs),dI p,dI n] ds∧∃ l q,ds=[.s (dL l),.s (Ja bs),dI q]∧p≤q∧q≤p+10∧l.length≤4∧Lim 20000 l:=by
  refine Jue (vs:=[.l (Ja bs),.i p,.i n]) L_k31 rfl ?_;refine JtE (fun m vs=>∃ (l:List Int) (i:Int),vs=[.l (dL l),.i i,.i (p+i),.l (Ja bs)]∧(l.length:Int)=i∧0≤i∧i≤3∧(m:Int)=3-i∧Lim 20000 l) rfl 3
   ⟨[],0,by simp[den,Jm,dL,V.int],rfl,by omega,by omega,by omega,fun x hx=>by simp at hx⟩ ?_
  rintro m _ ⟨l,i,rfl,hl,h0,h3,hm,hlim⟩;have hri:Rdr bs (p+i):=hr.go (by omega) (by omega);refine Jt2 (i<3) rfl (fun h=>?_) (fun h=>?_)
  ·obtain⟨v,hv,_,hv2⟩:=V8 hri (n:=9) (by omega);have hv2:=hv2 (by omega);refine JtK (args:=[.s (Ja bs),dI (p+i),dI 9]) rfl rfl hv rfl ?_;refine JtF (0≤v) rfl hv2.1 ?_;refine JtF (v<9) rfl hv2.2 ?_;refine JtJ (ds:=dL [0,1,5,20,-3,60,10000,-10000,9996]) v rfl rfl rfl hv2.1 (JZ hv2.1 hv2.2) rfl ?_;have hx:=XI (p:=fun x=>-20000≤x∧x≤20000) (l:=[0,1,5,20,-3,60,10000,-10000,9996]) (by decide) (k:=v.toNat) (by simp;omega);generalize ([0,1,5,20,-3,60,10000,-10000,9996]:List Int).getD v.toNat 0=x at *;refine JtF (((dL l++[dI x]).length:Int)≤8796093022208) rfl (by simp[dL1];omega) ?_;refine JtH (vs:=[.l (dL (l++[x])),.i (i+1),.i (p+(i+1)),.l (Ja bs)]) ?_ ⟨m-1,by omega,l++[x],i+1,rfl,by simp;omega,by omega,by omega,by omega,hlim.snoc hx⟩;show [V.l (dL l++[dI x]),V.i (i64.wrap (i+1)),V.i (p+i+1),V.l (Ja bs)]=_;rw[Xa,w64 (by omega) (by omega),Int.add_assoc]
  ·refine JtX ?_;obtain⟨v,hv,_,_⟩:=V8 hri (n:=n) hn;refine JtK (args:=[.s (Ja bs),dI (p+i),dI n]) rfl rfl hv rfl ?_;refine Jt2 (v=0) rfl (fun hv0=>?_) (fun hv0=>Jt9 ⟨l,p+i+1,rfl,by omega,by omega,by omega,hlim⟩);obtain⟨u,hu,_,hu2⟩:=V8 (hri.go (q:=p+i+1) (by omega) (by omega)) (n:=3) (by omega);have hu2:=hu2 (by omega);refine JtK (args:=[.s (Ja bs),dI (p+i+1),dI 3]) rfl rfl hu rfl ?_;refine Jt2 (u=0) rfl (fun hu0=>?_) (fun hu0=>?_)
   ·refine JtF (2≤((dL l).length:Int)) rfl (by rw[dL1];omega) ?_;refine Jt9 ⟨l.take 2,p+i+1+1,?_,by omega,by omega,by simp;omega,hlim.take 2⟩;show [D.s ((dL l).take 2),D.s (Ja bs),dI (p+i+1+1)]=_;rw[VF]
   refine Jt2 (u=1) rfl (fun hu1=>?_) (fun hu1=>?_)
   ·refine JtF (((dL l++[dI 0]).length:Int)≤8796093022208) rfl (by simp[dL1];omega) ?_;refine Jt9 ⟨l++[0],p+i+1+1,?_,by omega,by omega,by simp;omega,hlim.snoc (by omega)⟩;show [D.s (dL l++[dI 0]),D.s (Ja bs),dI (p+i+1+1)]=_;rw[Xa]
   obtain⟨a,ha,_,ha2⟩:=V8 (hri.go (q:=p+i+1+1) (by omega) (by omega)) (n:=3) (by omega);have ha2:=ha2 (by omega);refine JtK (args:=[.s (Ja bs),dI (p+i+1+1),dI 3]) rfl rfl ha rfl ?_;obtain⟨b,hb,_,hb2⟩:=V8 (hri.go (q:=p+i+1+1+1) (by omega) (by omega)) (n:=2) (by omega);have hb2:=hb2 (by omega);refine JtK (args:=[.s (Ja bs),dI (p+i+1+1+1),dI 2]) rfl rfl hb rfl ?_;refine JtF (0≤b) rfl hb2.1 ?_;refine JtF (b<2) rfl hb2.2 ?_;refine JtJ (ds:=dL [10001,-10001]) b rfl rfl rfl hb2.1 (JZ hb2.1 hb2.2) rfl ?_;have hx:=XI (p:=fun x=>-20000≤x∧x≤20000) (l:=[10001,-10001]) (by decide) (k:=b.toNat) (by simp;omega);generalize ([10001,-10001]:List Int).getD b.toNat 0=x at *;refine JtF (0≤a) rfl ha2.1 ?_;refine JtF (a<((dL l).length:Int)) rfl (by rw[dL1];omega) ?_;refine JtJ (ds:=dL l) a rfl rfl rfl ha2.1 (JZ ha2.1 (by omega)) rfl ?_;refine Jt9 ⟨l.set a.toNat x,p+i+1+1+1+1,?_,by omega,by omega,by simp;omega,hlim.set hx _⟩;show [D.s ((dL l).set a.toNat (dI x)),D.s (Ja bs),dI (p+i+1+1+1+1)]=_;rw[QL]
 obtain⟨ds,h1,l,q,rfl,h2⟩:=key;exact⟨l,q,h1,h2⟩
/- What draws of treaties,of what sites have added,of forms and lines come to. -/
theorem Jd {r:R} {l:List V} {Q:Oc→Prop} {c:Nat} {as:List E} {bs:List Int} {p:Int} (n:Int) (hr:Rdr bs p) (h1:1≤n) (hn:n≤2000000) (hc:c=l.length) (ha:as.map (dat (Jm l))=[.s (Ja bs),dI p,dI n])
  (h :∀v,0≤v→v<n→WR L r (l++[.i v,.l (Ja bs),.i (p+1)]) Q):WR L (.i (.call f_k1 as [.i .i64,.s,.i .i64] c) r) l Q:=by
 obtain⟨v,hv,_,hv2⟩:=V8 hr hn;exact JtK hc ha hv rfl (h v (hv2 h1).1 (hv2 h1).2)
theorem Jhq {bs:List Int} {p n:Int} (hr:Rdr bs p) (hf:p≤999999990000) (h1:1≤n) (hn:n≤2000000) :
  ∃ a q,Ev L f_k32 [.s (Ja bs),dI p,dI n] [.s (dL a),.s (Ja bs),dI q]∧p≤q∧q≤p+10∧a.length≤4∧Lim 30000 a:=by
 have key : ∃ ds,Ev L f_k32 [.s (Ja bs),dI p,dI n] ds∧∃ a q,ds=[.s (dL a),.s (Ja bs),dI q]∧p≤q∧q≤p+10∧a.length≤4∧Lim 30000 a:=by
  refine Jue (vs:=[.l (Ja bs),.i p,.i n]) L_k32 rfl ?_;refine Jd 9 hr (by omega) (by omega) rfl rfl fun u hu0 hu1=>?_;refine Jd 9 (hr.go (q:=p+1) (by omega) (by omega)) (by omega) (by omega) rfl rfl fun v hv0 hv1=>?_;refine Jd 4 (hr.go (q:=p+1+1) (by omega) (by omega)) (by omega) (by omega) rfl rfl fun w hw0 hw1=>?_;refine JtF (0≤w) rfl hw0 ?_;refine JtF (w<4) rfl hw1 ?_;refine JtJ (ds:=dL [0,0,1,-2]) w rfl rfl rfl hw0 (JZ hw0 hw1) rfl ?_;have hx:=XI (p:=fun x=>-30000≤x∧x≤30000) (l:=[0,0,1,-2]) (by decide) (k:=w.toNat) (by simp;omega);generalize ([0,0,1,-2]:List Int).getD w.toNat 0=x at *;have hlim:Lim 30000 [u-4,v-4,x]:=by
   intro y hy;simp at hy;rcases hy with rfl | rfl | rfl
   ·omega
   ·omega
   ·exact hx
  have e:[dI (i64.wrap (u-4)),dI (i64.wrap (v-4)),dI x]=dL [u-4,v-4,x]:=by
   rw[w64 (by omega) (by omega),w64 (by omega) (by omega)];rfl
  refine Jd n (hr.go (q:=p+1+1+1) (by omega) (by omega)) h1 hn rfl rfl fun y hy0 hy1=>?_;refine Jt2 (y=0) rfl (fun hy=>?_) (fun hy=>Jt9 ⟨[u-4,v-4,x],p+1+1+1+1,?_,by omega,by omega,by simp,hlim⟩)
  ·refine Jd 3 (hr.go (q:=p+1+1+1+1) (by omega) (by omega)) (by omega) (by omega) rfl rfl fun z hz0 hz1=>?_;refine Jt2 (z=0) rfl (fun hz=>?_) (fun hz=>?_)
   ·refine Jt9 ⟨[u-4,v-4,x].take 2,p+1+1+1+1+1,?_,by omega,by omega,by simp,hlim.take 2⟩;show [D.s ([dI (i64.wrap (u-4)),dI (i64.wrap (v-4)),dI x].take 2),D.s (Ja bs),dI (p+1+1+1+1+1)]=_;rw[e,VF]
   refine Jt2 (z=1) rfl (fun hz=>?_) (fun hz=>?_)
   ·refine Jd 3 (hr.go (q:=p+1+1+1+1+1) (by omega) (by omega)) (by omega) (by omega) rfl rfl fun t ht0 ht1=>?_;refine JtF (0≤t) rfl ht0 ?_;refine JtF (t<3) rfl ht1 ?_;refine JtJ (ds:=dL [20001,60,-60]) t rfl rfl rfl ht0 (JZ ht0 ht1) rfl ?_;have hx2:=XI (p:=fun x=>-30000≤x∧x≤30000) (l:=[20001,60,-60]) (by decide) (k:=t.toNat) (by simp;omega);generalize ([20001,60,-60]:List Int).getD t.toNat 0=x2 at *;refine JtJ (ds:=dL [u-4,v-4,x]) 0 rfl e rfl (by omega) (JZ (by omega) (by simp)) rfl ?_;refine Jt9 ⟨[u-4,v-4,x].set 0 x2,p+1+1+1+1+1+1,?_,by omega,by omega,by simp,hlim.set hx2 _⟩;show [D.s ([dI (i64.wrap (u-4)),dI (i64.wrap (v-4)),dI x].set 0 (dI x2)),D.s (Ja bs),dI (p+1+1+1+1+1+1)]=_;rw[e,QL]
   ·refine Jub ([dI (i64.wrap (u-4)),dI (i64.wrap (v-4)),dI x]++[dI 0]) rfl (by simp only[Juo,List.length_cons,List.length_nil];omega) ?_;refine Jt9 ⟨[u-4,v-4,x]++[0],p+1+1+1+1+1,?_,by omega,by omega,by simp,hlim.snoc (by omega)⟩;show [D.s ([dI (i64.wrap (u-4)),dI (i64.wrap (v-4)),dI x]++[dI 0]),D.s (Ja bs),dI (p+1+1+1+1+1)]=_;rw[e,Xa]
  ·show [D.s [dI (i64.wrap (u-4)),dI (i64.wrap (v-4)),dI x],D.s (Ja bs),dI (p+1+1+1+1)]=_;rw[e]
 obtain⟨ds,e1,a,q,rfl,e2⟩:=key;exact⟨a,q,e1,e2⟩
/- What says whether forms,lines,acts are ok. -/
theorem JQ (n a b:Int):Ev L f_k7 [dI n,dI a,dI b] [dB (inB n a b)]:=by
 refine Jud (vs:=[.i n,.i a,.i b]) L_k7 rfl ?_;refine Jt2 (a≤n) rfl (fun h=>Jt9 ?_) (fun h=>Jt9 ?_)
 ·show [dB (decide (n≤b))]=_;simp[inB,h]
 ·show [dB false]=_;simp[inB,h]
theorem Xr (l:List Int) (n m:Int) (hl:l.length≤2000000) (h0:0≤m) (hm:m≤10000000000000):Ev L f_k8 [.s (dL l),dI n,dI m] [dB (JG n m l)]:=by
 refine Jud (vs:=[.l (dL l),.i n,.i m]) L_k8 rfl ?_;have c0:bol (Jm [V.l (dL l),V.i n,V.i m]) (.not (.cmp .eq (.len (.v 0)) (.v 1)))=decide (¬(l.length:Int)=n):=by
  simp[bol,den,V.bool,V.int,V.lst,CO.sem,Jm,dL1]
 refine Jt2 (¬(l.length:Int)=n) c0 (fun h=>Jt9 ?_) (fun h=>?_)
 ·show [dB false]=_;simp[JG,h]
 have h:(l.length:Int)=n:=by omega
 refine JtE (fun k vs=>∃ i:Int,vs=[.i i]∧0≤i∧i≤l.length∧(k:Int)=l.length-i∧(l.take i.toNat).all (fun x=>inB x (0-m) m)=true) rfl l.length ⟨0,rfl,by omega,by omega,by omega,by simp⟩ ?_;rintro k _ ⟨i,rfl,i0,i1,hk,ha⟩;refine Jt2 (i<((dL l).length:Int)) rfl (fun hi=>?_) (fun hi=>?_)
 ·rw[dL1] at hi;refine JtJ (ds:=dL l) i rfl rfl rfl i0 (JZ i0 hi) rfl ?_;have hx:l[i.toNat]? = some (l.getD i.toNat 0):=by simp[Jul,show i.toNat<l.length by omega]
  generalize l.getD i.toNat 0=x at *;refine JtK (args:=[dI x,dI (0-m),dI m]) rfl ?_ (JQ x (0-m) m) rfl ?_
  ·show [dI x,dI (i64.wrap (0-m)),dI m]=_;rw[w64 (by omega) (by omega)]
  refine Jt2 (inB x (0-m) m=false) ?_ (fun hb=>?_) (fun hb=>?_)
  ·show (!(inB x (0-m) m))=_;cases inB x (0-m) m <;> rfl
  ·refine JtX (Jt9 ?_);show [dB false]=_;have hna:l.all (fun x=>inB x (0-m) m)=false:=Yl (p:=fun x=>inB x (0-m) m) hx hb;simp only[JG,hna];simp
  ·refine JtH (vs:=[.i (i+1)]) ?_ ⟨k-1,by omega,i+1,rfl,by omega,by omega,by omega,?_⟩
   ·show [V.i (i64.wrap (i+1))]=_;rw[w64 (by omega) (by omega)]
   ·rw[show (i+1).toNat=i.toNat+1 by omega];exact QW hx ha (by simpa using hb)
 ·rw[dL1] at hi;refine JtX (Jt9 ?_);show [dB true]=_;rw[Jum (by omega)] at ha;simp only[JG,h,ha];simp
def Frm.fit (f:Frm):Prop:=f.c.length≤2000000∧f.d.length≤2000000
theorem WL (f:Frm) (hf:Frm.fit f):Ev L f_k9 f.cells [dB f.small]:=by
 refine Jud (vs:=[.l (dL f.c),.l (dL f.d),.i f.k]) L_k9 rfl ?_;refine JtK (args:=[.s (dL f.c),dI 3,dI 2]) rfl rfl (Xr f.c 3 2 hf.1 (by omega) (by omega)) rfl ?_;refine Jua (JG 3 2 f.c) rfl (fun h=>?_) (fun h=>Jt9 ?_)
 ·refine JtK (args:=[.s (dL f.d),dI 2,dI 2]) rfl rfl (Xr f.d 2 2 hf.2 (by omega) (by omega)) rfl ?_;refine Jua (JG 2 2 f.d) rfl (fun h2=>?_) (fun h2=>Jt9 ?_)
  ·refine JtK (args:=[dI f.k,dI (-20),dI 20]) rfl rfl (JQ _ _ _) rfl ?_;refine Jt9 ?_;show [dB (inB f.k (-20) 20)]=_;simp[Frm.small,h,h2]
  ·show [dB false]=_;simp[Frm.small,h,h2]
 ·show [dB false]=_;simp[Frm.small,h]
theorem Jih (f:Frm) (hf:Frm.fit f):Ev L f_kx f.cells [dB f.ok]:=by
 refine Jud (vs:=[.l (dL f.c),.l (dL f.d),.i f.k]) L_kx rfl ?_;refine JtK (args:=[.s (dL f.c),dI 3,dI 10000000]) rfl rfl (Xr f.c 3 10000000 hf.1 (by omega) (by omega)) rfl ?_;refine Jua (JG 3 10000000 f.c) rfl (fun h=>?_) (fun h=>Jt9 ?_)
 ·refine JtK (args:=[.s (dL f.d),dI 2,dI 10000000]) rfl rfl (Xr f.d 2 10000000 hf.2 (by omega) (by omega)) rfl ?_;refine Jua (JG 2 10000000 f.d) rfl (fun h2=>?_) (fun h2=>Jt9 ?_)
  ·refine JtK (args:=[dI f.k,dI (-10000000),dI 10000000]) rfl rfl (JQ _ _ _) rfl ?_;refine Jt9 ?_;show [dB (inB f.k (-10000000) 10000000)]=_;simp[Frm.ok,h,h2]
  ·show [dB false]=_;simp[Frm.ok,h,h2]
 ·show [dB false]=_;simp[Frm.ok,h]
theorem Jmx (l:Jg) (hf:Frm.fit l.f):Ev L f_ka l.cells [dB l.ok]:=by
 refine Jud (vs:=[.i l.kind,.i l.pot,.i l.skip,.l (dL l.f.c),.l (dL l.f.d),.i l.f.k]) L_ka rfl ?_;refine Jt2 (l.kind=1) rfl (fun h1=>?_) (fun h1=>?_)
 ·refine Jt2 (l.pot=0) rfl (fun h2=>?_) (fun h2=>Jt9 ?_)
  ·refine JtK (args:=[dI l.skip,dI 1,dI 6]) rfl rfl (JQ _ _ _) rfl ?_;refine Jua (inB l.skip 1 6) rfl (fun h3=>?_) (fun h3=>Jt9 ?_)
   ·refine JtK (args:=l.f.cells) rfl rfl (WL l.f hf) rfl (Jt9 ?_);show [dB l.f.small]=_;simp[Jg.ok,h1,h2,h3]
   ·show [dB false]=_;simp[Jg.ok,h1,h2,h3]
  ·show [dB false]=_;simp[Jg.ok,h1,h2]
 refine Jt2 (l.kind=2) rfl (fun h2=>?_) (fun h2=>?_)
 ·refine JtK (args:=[dI l.pot,dI 0,dI 2]) rfl rfl (JQ _ _ _) rfl ?_;refine Jua (inB l.pot 0 2) rfl (fun h3=>?_) (fun h3=>Jt9 ?_)
  ·refine Jt2 (l.skip=0) rfl (fun h4=>?_) (fun h4=>Jt9 ?_)
   ·refine JtK (args:=l.f.cells) rfl rfl (WL l.f hf) rfl (Jt9 ?_);show [dB l.f.small]=_;simp[Jg.ok,h2,h3,h4]
   ·show [dB false]=_;simp[Jg.ok,h2,h3,h4]
  ·show [dB false]=_;simp[Jg.ok,h2,h3]
 refine Jt2 (l.kind=3) rfl (fun h3=>?_) (fun h3=>?_)
 ·refine Jt2 (l.pot=0) rfl (fun h4=>?_) (fun h4=>Jt9 ?_)
  ·refine Jt2 (l.skip=0) rfl (fun h5=>?_) (fun h5=>Jt9 ?_)
   ·refine JtK (args:=l.f.cells) rfl rfl (WL l.f hf) rfl (Jt9 ?_);show [dB l.f.small]=_;simp[Jg.ok,h3,h4,h5]
   ·show [dB false]=_;simp[Jg.ok,h3,h4,h5]
  ·show [dB false]=_;simp[Jg.ok,h3,h4]
 refine Jt2 (l.kind=4) rfl (fun h4=>?_) (fun h4=>Jt9 ?_)
 ·refine Jt2 (l.pot=0) rfl (fun h5=>?_) (fun h5=>Jt9 ?_)
  ·refine Jt2 (l.skip=0) rfl (fun h6=>?_) (fun h6=>Jt9 ?_)
   ·have hw:i64.wrap (((dL l.f.c).length:Int)+(dL l.f.d).length)=l.f.c.length+l.f.d.length:=by
     rw[dL1,dL1];have:=hf.1;have:=hf.2;exact w64 (by omega) (by omega)
    refine Jt2 (((l.f.c.length:Int)+l.f.d.length)=0) ?_ (fun h7=>Jt9 ?_) (fun h7=>Jt9 ?_)
    ·show decide (i64.wrap (((dL l.f.c).length:Int)+(dL l.f.d).length)=0)=_;rw[hw]
    ·show [dB (decide (l.f.k=0))]=_;simp only[Jg.ok,h4,h5,h6,h7];simp
    ·show [dB false]=_;simp only[Jg.ok,h4,h5,h6,h7];simp
   ·show [dB false]=_;simp[Jg.ok,h4,h5,h6]
  ·show [dB false]=_;simp[Jg.ok,h4,h5]
 ·show [dB false]=_;simp[Jg.ok,h1,h2,h3,h4]
def KL (a:List Jg):Prop:=a.length≤2000000∧∀l∈a,Frm.fit l.f
theorem U7 {a:List Jg} {i:Int} (h0:0≤i) (h1:i<a.length) : ∃ x,a[i.toNat]? = some x∧(Jk a)[i.toNat]? = some x.g:=Jk1 h0 h1
theorem Jaq (a:List Jg) (ha:KL a):Ev L f_kb [.s (Jk a)] [dB (Qu a)]:=by
 have hlen:=ha.1;refine Jud (vs:=[.l (Jk a)]) L_kb rfl ?_;refine JtE (fun k vs=>∃ i:Int,vs=[.i (Yf (a.take i.toNat)),.i i]∧0≤i∧i≤a.length∧(k:Int)=a.length-i∧(a.take i.toNat).all Jg.ok=true) rfl a.length ⟨0,rfl,by omega,by omega,by omega,by simp⟩ ?_;rintro k _ ⟨i,rfl,i0,i1,hk,hal⟩;have htl:Yf (a.take i.toNat)≤a.length:=Nat.le_trans List.countP_le_length (by simp;omega);refine Jt2 (i<((Jk a).length:Int)) rfl (fun hi=>?_) (fun hi=>?_)
 ·rw[JM] at hi;obtain⟨x,hx,hd⟩:=U7 i0 hi;have hfx:=ha.2 x (Jup hx);refine JtJ (ds:=Jk a) i rfl rfl rfl i0 hd rfl ?_;refine JtK (args:=x.cells) rfl rfl (Jmx x hfx) rfl ?_;refine Jt2 (x.ok=false) ?_ (fun hb=>?_) (fun hb=>?_)
  ·show (!x.ok)=_;cases x.ok <;> rfl
  ·refine JtX (Jt9 ?_);show [dB false]=_;simp[Qu,Yl hx hb]
  ·have hb:x.ok=true:=by simpa using hb
   refine JtJ (ds:=Jk a) i rfl rfl rfl i0 hd rfl ?_;have ht:Yf (a.take (i+1).toNat)=Yf (a.take i.toNat)+if x.kind=1 then 1 else 0:=by
    rw[show (i+1).toNat=i.toNat+1 by omega,tS1 hx];simp[Yf,List.countP_append,List.countP_cons]
   have hal':(a.take (i+1).toNat).all Jg.ok=true:=by
    rw[show (i+1).toNat=i.toNat+1 by omega];exact QW hx hal hb
   refine Jt2 (x.kind=1) rfl (fun h1=>?_) (fun h1=>?_)
   ·refine JtH (vs:=[.i (Yf (a.take (i+1).toNat)),.i (i+1)]) ?_ ⟨k-1,by omega,i+1,rfl,by omega,by omega,by omega,hal'⟩;show [V.i (i64.wrap ((Yf (a.take i.toNat):Int)+1)),V.i (i64.wrap (i+1))]=_;rw[w64 (n:=i+1) (by omega) (by omega),w64 (by omega) (by omega),ht,if_pos h1];rfl
   ·refine JtH (vs:=[.i (Yf (a.take (i+1).toNat)),.i (i+1)]) ?_ ⟨k-1,by omega,i+1,rfl,by omega,by omega,by omega,hal'⟩;show [V.i (Yf (a.take i.toNat):Int),V.i (i64.wrap (i+1))]=_;rw[w64 (n:=i+1) (by omega) (by omega),ht,if_neg h1];rfl
 ·rw[JM] at hi;rw[Jum (by omega)] at hal htl ⊢;refine JtX ?_;refine Jt2 (((Jk a).length:Int)≤6) rfl (fun h6=>Jt9 ?_) (fun h6=>Jt9 ?_)
  ·rw[JM] at h6;show [dB (decide ((Yf a:Int)≤3))]=_;simp only[Qu,hal,h6];simp
  ·rw[JM] at h6;show [dB false]=_;simp only[Qu,h6];simp
/- What draws of forms,lines,acts come to. -/
theorem XR:Ev L f_k2 [] Frm.zero.cells:=Jud (vs:=[]) L_k2 rfl (Jt9 rfl)
theorem ZH (a b k:Int):Ev L f_k3 [dI a,dI b,dI k] (Frm.cells ⟨[0,0,0],[a,b],k⟩):=by
 refine Jud (vs:=[.i a,.i b,.i k]) L_k3 rfl ?_;refine JtK (args:=[]) rfl rfl XR rfl ?_;refine JtF ((0:Int)<2) rfl (by omega) ?_;refine JtJ (ds:=dL [0,0]) 0 rfl rfl rfl (by omega) rfl rfl ?_;refine JtF ((1:Int)<2) rfl (by omega) ?_;refine JtJ (ds:=dL [a,0]) 1 rfl rfl rfl (by omega) rfl rfl ?_;exact Jt9 rfl
theorem Zd (f:Frm) (v n:Int) (h0:0≤v) (h1:v<f.c.length):Ev L f_k4 [.s (dL f.c),.s (dL f.d),dI f.k,dI v,dI n] [dI f.k,.s (dL (f.c.set v.toNat n)),.s (dL f.d)]:=by
 refine Jud (vs:=[.l (dL f.c),.l (dL f.d),.i f.k,.i v,.i n]) L_k4 rfl ?_;refine JtF (0≤v) rfl h0 ?_;refine JtF (v<((dL f.c).length:Int)) rfl (by rw[dL1];exact h1) ?_;refine JtJ (ds:=dL f.c) v rfl rfl rfl h0 (JZ h0 h1) rfl ?_;refine Jt9 ?_;show [dI f.k,.s ((dL f.c).set v.toNat (dI n)),.s (dL f.d)]=_;rw[QL]
theorem Q8 {bs:List Int} {p:Int} (hr:Rdr bs p) (hf:p≤999999990000) :
  ∃ (f:Frm) (q:Int),Ev L f_k5 [.s (Ja bs),dI p] (f.cells++[.s (Ja bs),dI q])∧p≤q∧q≤p+10∧f.c.length=3∧f.d.length=2:=by
 have key : ∃ ds,Ev L f_k5 [.s (Ja bs),dI p] ds∧∃ (f:Frm) (q:Int),ds=f.cells++[.s (Ja bs),dI q]∧p≤q∧q≤p+10∧f.c.length=3∧f.d.length=2:=by
  refine Jue (vs:=[.l (Ja bs),.i p]) L_k5 rfl ?_;refine JtK (args:=[]) rfl rfl XR rfl ?_;refine JtE (fun m vs=>∃ (c:List Int) (i:Int),vs=[.l (dL c),.i i,.i (p+i),.l (Ja bs)]∧c.length=3∧0≤i∧i≤3∧(m:Int)=3-i) rfl 3 ⟨[0,0,0],0,by simp[den,Jm,dL,V.int,Frm.zero],rfl,by omega,by omega,by omega⟩ ?_;rintro m _ ⟨c,i,rfl,hc,i0,i3,hm⟩;refine Jt2 (i<3) rfl (fun h=>?_) (fun h=>?_)
  ·refine Jd 6 (hr.go (q:=p+i) (by omega) (by omega)) (by omega) (by omega) rfl rfl fun v hv0 hv1=>?_;refine JtF (0≤v) rfl hv0 ?_;refine JtF (v<6) rfl hv1 ?_;refine JtJ (ds:=dL [0,0,0,1,-1,2]) v rfl rfl rfl hv0 (JZ hv0 hv1) rfl ?_;generalize ([0,0,0,1,-1,2]:List Int).getD v.toNat 0=x at *;refine JtF (0≤i) rfl i0 ?_;refine JtF (i<((dL c).length:Int)) rfl (by rw[dL1];omega) ?_;refine JtJ (ds:=dL c) i rfl rfl rfl i0 (JZ i0 (by omega)) rfl ?_;refine JtH (vs:=[.l (dL (c.set i.toNat x)),.i (i+1),.i (p+(i+1)),.l (Ja bs)]) ?_ ⟨m-1,by omega,c.set i.toNat x,i+1,rfl,by simp[hc],by omega,by omega,by omega⟩;show [V.l ((dL c).set i.toNat (dI x)),V.i (i64.wrap (i+1)),V.i (p+i+1),V.l (Ja bs)]=_;rw[QL,w64 (by omega) (by omega),Int.add_assoc]
  refine JtX ?_;have hi:i=3:=by omega
  subst hi;refine JtE (fun m vs=>∃ (d:List Int) (j:Int),vs=[.l (dL d),.i j,.i (p+3+j),.l (Ja bs)]∧d.length=2∧0≤j∧j≤2∧(m:Int)=2-j) rfl 2 ⟨[0,0],0,by simp[den,Jm,dL,V.int,V.lst,Frm.zero],rfl,by omega,by omega,by omega⟩ ?_;rintro m _ ⟨d,j,rfl,hd,j0,j2,hm⟩;refine Jt2 (j<2) rfl (fun h=>?_) (fun h=>?_)
  ·refine Jd 5 (hr.go (q:=p+3+j) (by omega) (by omega)) (by omega) (by omega) rfl rfl fun v hv0 hv1=>?_;refine JtF (0≤v) rfl hv0 ?_;refine JtF (v<5) rfl hv1 ?_;refine JtJ (ds:=dL [0,0,1,-1,2]) v rfl rfl rfl hv0 (JZ hv0 hv1) rfl ?_;generalize ([0,0,1,-1,2]:List Int).getD v.toNat 0=x at *;refine JtF (0≤j) rfl j0 ?_;refine JtF (j<((dL d).length:Int)) rfl (by rw[dL1];omega) ?_;refine JtJ (ds:=dL d) j rfl rfl rfl j0 (JZ j0 (by omega)) rfl ?_;refine JtH (vs:=[.l (dL (d.set j.toNat x)),.i (j+1),.i (p+3+(j+1)),.l (Ja bs)]) ?_ ⟨m-1,by omega,d.set j.toNat x,j+1,rfl,by simp[hd],by omega,by omega,by omega⟩;show [V.l ((dL d).set j.toNat (dI x)),V.i (i64.wrap (j+1)),V.i (p+3+j+1),V.l (Ja bs)]=_;rw[QL,w64 (by omega) (by omega),Int.add_assoc (p+3)]
  refine JtX ?_;refine Jd 8 (hr.go (q:=p+3+j) (by omega) (by omega)) (by omega) (by omega) rfl rfl fun v hv0 hv1=>?_;refine JtF (0≤v) rfl hv0 ?_;refine JtF (v<8) rfl hv1 ?_;refine JtJ (ds:=dL [0,0,1,-1,5,-5,20,-20]) v rfl rfl rfl hv0 (JZ hv0 hv1) rfl ?_;exact Jt9 ⟨⟨c,d,_⟩,p+3+j+1,rfl,by omega,by omega,hc,hd⟩
 obtain⟨ds,e1,f,q,rfl,e2⟩:=key;exact⟨f,q,e1,e2⟩
def KF (l:Jg):Prop:=l.f.c.length≤3∧l.f.d.length≤2
theorem Jj3 {bs:List Int} {p:Int} (hr:Rdr bs p) (hf:p≤999999980000) :
  ∃ (l:Jg) (q:Int),Ev L f_k6 [.s (Ja bs),dI p] (l.cells++[.s (Ja bs),dI q])∧p≤q∧q≤p+20∧KF l:=by
 have key : ∃ ds,Ev L f_k6 [.s (Ja bs),dI p] ds∧∃ (l:Jg) (q:Int),ds=l.cells++[.s (Ja bs),dI q]∧p≤q∧q≤p+20∧KF l:=by
  refine Jue (vs:=[.l (Ja bs),.i p]) L_k6 rfl ?_;refine Jd 7 hr (by omega) (by omega) rfl rfl fun v hv0 hv1=>?_;have hr1:Rdr bs (p+1):=hr.go (by omega) (by omega);refine Jt2 (v=0) rfl (fun h=>?_) (fun h0=>?_)
  ·refine Jd 3 hr1 (by omega) (by omega) rfl rfl fun u hu0 hu1=>?_;obtain⟨f,q,e,q1,q2,f1,f2⟩:=Q8 (hr1.go (q:=p+1+1) (by omega) (by omega)) (by omega);refine JtK (args:=[.s (Ja bs),dI (p+1+1)]) rfl rfl e rfl ?_;exact Jt9 ⟨⟨1,0,i64.wrap (1+u),f⟩,q,rfl,by omega,by omega,by simp[KF,f1,f2]⟩
  refine Jt2 (v=1) rfl (fun h=>?_) (fun h1=>?_)
  ·refine Jd 3 hr1 (by omega) (by omega) rfl rfl fun u hu0 hu1=>?_;obtain⟨f,q,e,q1,q2,f1,f2⟩:=Q8 (hr1.go (q:=p+1+1) (by omega) (by omega)) (by omega);refine JtK (args:=[.s (Ja bs),dI (p+1+1)]) rfl rfl e rfl ?_;exact Jt9 ⟨⟨1,0,i64.wrap (1+u),f⟩,q,rfl,by omega,by omega,by simp[KF,f1,f2]⟩
  refine Jt2 (v=2) rfl (fun h=>?_) (fun h2=>?_)
  ·obtain⟨f,q,e,q1,q2,f1,f2⟩:=Q8 hr1 (by omega);refine JtK (args:=[.s (Ja bs),dI (p+1)]) rfl rfl e rfl ?_;refine Jd 3 (hr.go (q:=q) (by omega) (by omega)) (by omega) (by omega) rfl rfl fun u hu0 hu1=>?_;refine Jt2 (0<u) rfl (fun hu=>?_) (fun hu=>?_)
   ·refine Jd 3 (hr.go (q:=q+1) (by omega) (by omega)) (by omega) (by omega) rfl rfl fun w hw0 hw1=>?_;exact Jt9 ⟨⟨2,w,0,⟨[0,0,0],f.d,f.k⟩⟩,q+1+1,rfl,by omega,by omega,by simp[KF,f1,f2]⟩
   ·refine Jd 3 (hr.go (q:=q+1) (by omega) (by omega)) (by omega) (by omega) rfl rfl fun w hw0 hw1=>?_;exact Jt9 ⟨⟨2,w,0,f⟩,q+1+1,rfl,by omega,by omega,by simp[KF,f1,f2]⟩
  refine Jt2 (v=3) rfl (fun h=>?_) (fun h3=>?_)
  ·obtain⟨f,q,e,q1,q2,f1,f2⟩:=Q8 hr1 (by omega);refine JtK (args:=[.s (Ja bs),dI (p+1)]) rfl rfl e rfl ?_;refine Jd 3 (hr.go (q:=q) (by omega) (by omega)) (by omega) (by omega) rfl rfl fun u hu0 hu1=>?_;refine Jt2 (0<u) rfl (fun hu=>?_) (fun hu=>?_)
   ·refine Jd 3 (hr.go (q:=q+1) (by omega) (by omega)) (by omega) (by omega) rfl rfl fun w hw0 hw1=>?_;exact Jt9 ⟨⟨2,w,0,⟨[0,0,0],f.d,f.k⟩⟩,q+1+1,rfl,by omega,by omega,by simp[KF,f1,f2]⟩
   ·refine Jd 3 (hr.go (q:=q+1) (by omega) (by omega)) (by omega) (by omega) rfl rfl fun w hw0 hw1=>?_;exact Jt9 ⟨⟨2,w,0,f⟩,q+1+1,rfl,by omega,by omega,by simp[KF,f1,f2]⟩
  refine Jt2 (v=4) rfl (fun h=>?_) (fun h4=>?_)
  ·obtain⟨f,q,e,q1,q2,f1,f2⟩:=Q8 hr1 (by omega);refine JtK (args:=[.s (Ja bs),dI (p+1)]) rfl rfl e rfl ?_;refine Jd 3 (hr.go (q:=q) (by omega) (by omega)) (by omega) (by omega) rfl rfl fun u hu0 hu1=>?_;refine Jt2 (0<u) rfl (fun hu=>?_) (fun hu=>?_)
   ·refine Jd 3 (hr.go (q:=q+1) (by omega) (by omega)) (by omega) (by omega) rfl rfl fun w hw0 hw1=>?_;exact Jt9 ⟨⟨2,w,0,⟨[0,0,0],f.d,f.k⟩⟩,q+1+1,rfl,by omega,by omega,by simp[KF,f1,f2]⟩
   ·refine Jd 3 (hr.go (q:=q+1) (by omega) (by omega)) (by omega) (by omega) rfl rfl fun w hw0 hw1=>?_;exact Jt9 ⟨⟨2,w,0,f⟩,q+1+1,rfl,by omega,by omega,by simp[KF,f1,f2]⟩
  refine Jt2 (v=5) rfl (fun h=>?_) (fun h5=>?_)
  ·obtain⟨f,q,e,q1,q2,f1,f2⟩:=Q8 hr1 (by omega);refine JtK (args:=[.s (Ja bs),dI (p+1)]) rfl rfl e rfl ?_;exact Jt9 ⟨⟨3,0,0,f⟩,q,rfl,by omega,by omega,by simp[KF,f1,f2]⟩
  exact Jt9 ⟨⟨4,0,0,⟨[],[],0⟩⟩,p+1,rfl,by omega,by omega,by simp[KF]⟩
 obtain⟨ds,e1,l,q,rfl,e2⟩:=key;exact⟨l,q,e1,e2⟩
/- What draws of acts come to. -/
theorem Joh (a:List Jg):Yb 6 (Jk a)=true:=by cases a <;> rfl
theorem KU (a:List Jg) (l:Jg):Jk a++[l.g]=Jk (a++[l]):=by simp[Jk]
def Jb7 (a:List Jg):Prop:=a.length≤5∧(∀l∈a,KF l)∧Qu a=true
theorem Jb7.fit {a:List Jg} (h:Jb7 a):KL a:=⟨by have:=h.1;omega,fun l hl=>⟨by have:=(h.2.1 l hl).1;omega,by have:=(h.2.1 l hl).2;omega⟩⟩
theorem JfA {bs:List Int} {p:Int} (hr:Rdr bs p) (hf:p≤999999970000) :
  ∃ (a:List Jg) (q:Int),Ev L f_kc [.s (Ja bs),dI p] [.s (Jk a),.s (Ja bs),dI q]∧p≤q∧q≤p+200∧Jb7 a:=by
 have key : ∃ ds,Ev L f_kc [.s (Ja bs),dI p] ds∧∃ (a:List Jg) (q:Int),ds=[.s (Jk a),.s (Ja bs),dI q]∧p≤q∧q≤p+200∧Jb7 a:=by
  refine Jue (vs:=[.l (Ja bs),.i p]) L_kc rfl ?_;refine Jd 2 hr (by omega) (by omega) rfl rfl fun v hv0 hv1=>?_;refine Jd 8 (hr.go (q:=p+1) (by omega) (by omega)) (by omega) (by omega) rfl rfl fun u hu0 hu1=>?_;have hw:v<(([0,0,0]:List Int).length:Int):=by simp;omega
  have hv01:v=0∨v=1:=by omega
  have n1:=ZH (-1) 0 0;have n2:=ZH 1 0 0;have n3:=ZH 1 0 (-9);refine Jt2 (u=0) rfl (fun h=>?_) (fun h0=>?_)
  ·refine JtK (args:=[dI (-1),dI 0,dI 0]) rfl rfl n1 rfl ?_;refine JtK (args:=[.s (dL [0,0,0]),.s (dL [-1,0]),dI 0,dI v,dI 1]) rfl rfl (Zd ⟨[0,0,0],[-1,0],0⟩ v 1 hv0 hw) rfl ?_;refine JtK (args:=[dI (-1),dI 0,dI 0]) rfl rfl n1 rfl ?_;refine JtK (args:=[dI 1,dI 0,dI 0]) rfl rfl n2 rfl ?_;refine JtK (args:=[dI 1,dI 0,dI (-9)]) rfl rfl n3 rfl ?_;exact Jt9 ⟨[⟨1,0,2,⟨[0,0,0].set v.toNat 1,[-1,0],0⟩⟩,⟨2,v,0,⟨[0,0,0],[-1,0],0⟩⟩,⟨3,0,0,⟨[0,0,0],[1,0],0⟩⟩,⟨1,0,1,⟨[0,0,0],[1,0],-9⟩⟩,⟨4,0,0,⟨[],[],0⟩⟩],p+1+1,rfl,by omega,by omega,by simp,by simp[KF],by rcases hv01 with rfl | rfl <;> decide⟩
  refine Jt2 (u=1) rfl (fun h=>?_) (fun h1=>?_)
  ·refine JtK (args:=[dI (-1),dI 0,dI 0]) rfl rfl n1 rfl ?_;refine JtK (args:=[.s (dL [0,0,0]),.s (dL [-1,0]),dI 0,dI v,dI 1]) rfl rfl (Zd ⟨[0,0,0],[-1,0],0⟩ v 1 hv0 hw) rfl ?_;refine JtK (args:=[dI (-1),dI 0,dI 0]) rfl rfl n1 rfl ?_;refine JtK (args:=[dI 1,dI 0,dI 0]) rfl rfl n2 rfl ?_;refine JtK (args:=[dI 1,dI 0,dI (-9)]) rfl rfl n3 rfl ?_;exact Jt9 ⟨[⟨1,0,2,⟨[0,0,0].set v.toNat 1,[-1,0],0⟩⟩,⟨2,v,0,⟨[0,0,0],[-1,0],0⟩⟩,⟨3,0,0,⟨[0,0,0],[1,0],0⟩⟩,⟨1,0,1,⟨[0,0,0],[1,0],-9⟩⟩,⟨4,0,0,⟨[],[],0⟩⟩],p+1+1,rfl,by omega,by omega,by simp,by simp[KF],by rcases hv01 with rfl | rfl <;> decide⟩
  refine Jt2 (u=2) rfl (fun h=>?_) (fun h2=>?_)
  ·refine JtK (args:=[dI 1,dI 0,dI 0]) rfl rfl n2 rfl ?_;exact Jt9 ⟨[⟨2,v,0,⟨[0,0,0],[1,0],0⟩⟩],p+1+1,rfl,by omega,by omega,by simp,by simp[KF],by rcases hv01 with rfl | rfl <;> decide⟩
  refine Jt2 (u=3) rfl (fun h=>?_) (fun h3=>?_)
  ·refine JtK (args:=[dI (-1),dI 0,dI 0]) rfl rfl n1 rfl ?_;refine JtK (args:=[.s (dL [0,0,0]),.s (dL [-1,0]),dI 0,dI v,dI 1]) rfl rfl (Zd ⟨[0,0,0],[-1,0],0⟩ v 1 hv0 hw) rfl ?_;refine JtK (args:=[dI (-1),dI 0,dI 0]) rfl rfl n1 rfl ?_;refine JtK (args:=[dI 1,dI 0,dI 0]) rfl rfl n2 rfl ?_;exact Jt9 ⟨[⟨1,0,2,⟨[0,0,0].set v.toNat 1,[-1,0],0⟩⟩,⟨2,v,0,⟨[0,0,0],[-1,0],0⟩⟩,⟨2,i64.wrap (1-v),0,⟨[0,0,0],[1,0],0⟩⟩],p+1+1,rfl,by omega,by omega,by simp,by simp[KF],by rcases hv01 with rfl | rfl <;> decide⟩
  refine Jt2 (u=4) rfl (fun h=>?_) (fun h4=>?_)
  ·refine JtK (args:=[dI 0,dI 0,dI 0]) rfl rfl (ZH 0 0 0) rfl ?_;refine JtK (args:=[.s (dL [0,0,0]),.s (dL [0,0]),dI 0,dI 2,dI 1]) rfl rfl (Zd ⟨[0,0,0],[0,0],0⟩ 2 1 (by omega) (by simp)) rfl ?_;exact Jt9 ⟨[⟨3,0,0,⟨[0,0,0].set 2 1,[0,0],0⟩⟩],p+1+1,rfl,by omega,by omega,by simp,by simp[KF],by rcases hv01 with rfl | rfl <;> decide⟩
  refine Jt2 (u=5) rfl (fun h=>?_) (fun h5=>?_)
  ·refine JtK (args:=[dI 0,dI 1,dI 5]) rfl rfl (ZH 0 1 5) rfl ?_;refine JtK (args:=[.s (dL [0,0,0]),.s (dL [0,1]),dI 5,dI 0,dI 1]) rfl rfl (Zd ⟨[0,0,0],[0,1],5⟩ 0 1 (by omega) (by simp)) rfl ?_;refine JtK (args:=[.s (dL [1,0,0]),.s (dL [0,1]),dI 5,dI 1,dI (-1)]) rfl rfl (Zd ⟨[1,0,0],[0,1],5⟩ 1 (-1) (by omega) (by simp)) rfl ?_;refine JtK (args:=[dI 0,dI 0,dI 1]) rfl rfl (ZH 0 0 1) rfl ?_;exact Jt9 ⟨[⟨1,0,1,⟨[1,-1,0],[0,1],5⟩⟩,⟨2,2,0,⟨[0,0,0],[0,0],1⟩⟩],p+1+1,rfl,by omega,by omega,by simp,by simp[KF],by rcases hv01 with rfl | rfl <;> decide⟩
  refine Jd 5 (hr.go (q:=p+1+1) (by omega) (by omega)) (by omega) (by omega) rfl rfl fun w hw0 hw1=>?_;refine JtE (fun m vs=>∃ (a:List Jg) (k o:Int),vs=[.l (Jk a),.i k,.i o,.l (Ja bs)]∧p+3≤o∧o+20*k≤p+3+100∧0≤k∧k≤5∧(m:Int)=k∧(a.length:Int)+k≤5∧Qu a=true∧∀l∈a,KF l) rfl (1+w).toNat
   ⟨[],1+w,p+1+1+1,?_,by omega,by omega,by omega,by omega,by omega,by simp;omega,rfl,fun x hx=>by simp at hx⟩ ?_
  ·show [V.l [],V.i (i64.wrap (1+w)),V.i (p+1+1+1),V.l (Ja bs)]=_;rw[w64 (by omega) (by omega)];rfl
  rintro m _ ⟨a,k,o,rfl,o1,o2,k0,k5,hm,hl,hak,hs⟩;refine Jt2 (0<k) rfl (fun h=>?_) (fun h=>JtX (Jt9 ⟨a,o,rfl,by omega,by omega,by omega,hs,hak⟩));obtain⟨x,q,ex,q1,q2,hx⟩:=Jj3 (hr.go (q:=o) (by omega) (by omega)) (by omega);refine JtK (args:=[.s (Ja bs),dI o]) rfl rfl ex rfl ?_;have hs' :∀l∈a++[x],KF l:=by
   intro l hl';rcases Jun.1 hl' with h' | h'
   ·exact hs l h'
   ·simp at h';subst h';exact hx
  have hfit:KL (a++[x]):=⟨by simp;omega,fun l hl'=>⟨by have:=(hs' l hl').1;omega,by have:=(hs' l hl').2;omega⟩⟩;refine Jub (Jk a) rfl (by rw[JM];omega) ?_;refine JtS (Joh a) ?_;refine Jub (Jk a) rfl (by rw[JM];omega) ?_;refine Jub (Jk a++[x.g]) rfl (by rw[KU,JM];simp;omega) ?_;refine JtK (args:=[.s (Jk (a++[x]))]) rfl ?_ (Jaq (a++[x]) hfit) rfl ?_
  ·show [D.s (([]++Jk a)++[x.g])]=_;rw[List.nil_append,KU]
  refine Jua (Qu (a++[x])) rfl (fun hok=>?_) (fun hok=>?_)
  ·refine Jub (Jk a++[x.g]) rfl (by rw[KU,JM];simp;omega) ?_;refine JtH (vs:=[.l (Jk (a++[x])),.i (k-1),.i q,.l (Ja bs)]) ?_ ⟨m-1,by omega,a++[x],k-1,q,rfl,by omega,by omega,by omega,by omega,by omega,by simp;omega,hok,hs'⟩;show [V.l (Jk a++[x.g]),V.i (i64.wrap (k-1)),V.i q,V.l (Ja bs)]=_;rw[KU,w64 (by omega) (by omega)]
  ·refine JtH (vs:=[.l (Jk a),.i (k-1),.i q,.l (Ja bs)]) ?_ ⟨m-1,by omega,a,k-1,q,rfl,by omega,by omega,by omega,by omega,by omega,by omega,hak,hs⟩;show [V.l (Jk a),V.i (i64.wrap (k-1)),V.i q,V.l (Ja bs)]=_;rw[w64 (by omega) (by omega)]
 obtain⟨ds,e1,a,q,rfl,e2⟩:=key;exact⟨a,q,e1,e2⟩
theorem Ws (as:List (List Jg)) (a:List Jg):Je as++[.s (Jk a)]=Je (as++[a]):=by simp[Je]
def JgO (as:List (List Jg)):Prop:=as.length≤4∧∀a∈as,Jb7 a
theorem JcO {bs:List Int} {p:Int} (hr:Rdr bs p) (hf:p≤999999960000) :
  ∃ (as:List (List Jg)) (q:Int),Ev L f_kd [.s (Ja bs),dI p] [.s (Je as),.s (Ja bs),dI q]∧p≤q∧q≤p+1000∧JgO as∧1≤as.length:=by
 have key : ∃ ds,Ev L f_kd [.s (Ja bs),dI p] ds∧∃ (as:List (List Jg)) (q:Int),ds=[.s (Je as),.s (Ja bs),dI q]∧p≤q∧q≤p+1000∧JgO as∧1≤as.length:=by
  refine Jue (vs:=[.l (Ja bs),.i p]) L_kd rfl ?_;refine Jd 4 hr (by omega) (by omega) rfl rfl fun w hw0 hw1=>?_;refine JtE (fun m vs=>∃ (as:List (List Jg)) (k o:Int),vs=[.l (Je as),.i k,.i o,.l (Ja bs)]∧p+1≤o∧o+200*k≤p+1+800∧0≤k∧k≤4∧(m:Int)=k∧(as.length:Int)+k=1+w∧∀a∈as,Jb7 a) rfl (1+w).toNat
   ⟨[],1+w,p+1,?_,by omega,by omega,by omega,by omega,by omega,by simp,fun x hx=>by simp at hx⟩ ?_
  ·show [V.l [],V.i (i64.wrap (1+w)),V.i (p+1),V.l (Ja bs)]=_;rw[w64 (by omega) (by omega)];rfl
  rintro m _ ⟨as,k,o,rfl,o1,o2,k0,k5,hm,hl,hs⟩;refine Jt2 (0<k) rfl (fun h=>?_) (fun h=>JtX (Jt9 ⟨as,o,rfl,by omega,by omega,⟨by omega,hs⟩,by omega⟩));obtain⟨x,q,ex,q1,q2,hx⟩:=JfA (hr.go (q:=o) (by omega) (by omega)) (by omega);refine JtK (args:=[.s (Ja bs),dI o]) rfl rfl ex rfl ?_;refine Jub (Je as++[.s (Jk x)]) rfl (by rw[Ws,JO];simp;omega) ?_;refine JtH (vs:=[.l (Je (as++[x])),.i (k-1),.i q,.l (Ja bs)]) ?_ ⟨m-1,by omega,as++[x],k-1,q,rfl,by omega,by omega,by omega,by omega,by omega,by simp;omega,?_⟩
  ·show [V.l (Je as++[.s (Jk x)]),V.i (i64.wrap (k-1)),V.i q,V.l (Ja bs)]=_;rw[Ws,w64 (by omega) (by omega)]
  ·intro a ha;rcases Jun.1 ha with h' | h'
   ·exact hs a h'
   ·simp at h';subst h';exact hx
 obtain⟨ds,e1,a,q,rfl,e2⟩:=key;exact⟨a,q,e1,e2⟩
/- What sums of forms and the ways through an act come to: the reference's. -/
theorem VL {x y n M N:Int} (hx : -M≤x∧x≤M) (hy : -M≤y∧y≤M) (hn : -N≤n∧n≤N) (hM:M≤1000000000) (hN:N≤1000000000):i64.wrap (x+i64.wrap (n*y))=x+n*y:=by
 have h:=UE (A:=1000000000) (B:=1000000000) (n:=n) (y:=y) (by omega) (by omega);rw[w64 (n:=n*y) (by omega) (by omega),w64 (by omega) (by omega)]
theorem VC {a b:Frm} {n M:Int} (ha:Std M a) (hb:Std M b) (hM:M≤1000000000) (hn : -1000000000≤n∧n≤1000000000) :
  Ev L f_kv (a.cells++b.cells++[dI n]) (JV a b n).cells:=by
 refine Jud (vs:=[.l (dL a.c),.l (dL a.d),.i a.k,.l (dL b.c),.l (dL b.d),.i b.k,.i n]) L_kv rfl ?_;refine JtK (args:=[]) rfl rfl XR rfl ?_;have hc:=ha.c;have hc':=hb.c;have hd:=ha.d;have hd':=hb.d;have hS:(Qh a.c b.c n).length=3:=by rw[Vq];omega
 have hT:(Qh a.d b.d n).length=2:=by rw[Vq];omega
 refine JtE (fun m vs=>∃ i:Nat,i≤3∧m=3-i∧vs=[.l (dL ((Qh a.c b.c n).take i++([0,0,0]:List Int).drop i)),.i i]) rfl 3 ⟨0,by omega,rfl,rfl⟩ ?_;rintro m _ ⟨i,hi,hm,rfl⟩;refine Jt2 ((i:Int)<3) rfl (fun h=>?_) (fun h=>?_)
 ·refine JtJ (ds:=dL a.c) i rfl rfl rfl (by omega) (JZ (by omega) (by omega)) rfl ?_;refine JtJ (ds:=dL b.c) i rfl rfl rfl (by omega) (JZ (by omega) (by omega)) rfl ?_;refine JtF ((0:Int)≤i) rfl (by omega) ?_;have hlen:((Qh a.c b.c n).take i++([0,0,0]:List Int).drop i).length=3:=by simp[hS];omega
  refine JtF ((i:Int)<((dL ((Qh a.c b.c n).take i++([0,0,0]:List Int).drop i)).length:Int)) rfl (by rw[dL1,hlen];omega) ?_;refine JtJ (ds:=dL ((Qh a.c b.c n).take i++([0,0,0]:List Int).drop i)) i rfl rfl rfl (by omega) (JZ (by omega) (by omega)) rfl ?_;refine JtH (vs:=[.l (dL ((Qh a.c b.c n).take (i+1)++([0,0,0]:List Int).drop (i+1))),.i ((i+1:Nat):Int)]) ?_ ⟨m-1,by omega,i+1,by omega,by omega,rfl⟩;show [V.l ((dL ((Qh a.c b.c n).take i++([0,0,0]:List Int).drop i)).set (i:Int).toNat (dI (i64.wrap (a.c.getD (i:Int).toNat 0+i64.wrap (n*b.c.getD (i:Int).toNat 0))))),V.i (i64.wrap ((i:Int)+1))]=_;have hx:=XI ha.lc (k:=(i:Int).toNat) (by omega);have hy:=XI hb.lc (k:=(i:Int).toNat) (by omega);rw[VL hx hy hn hM (by omega),QL,Int.toNat_natCast,fill (by rw[hS];rfl),w64 (by omega) (by omega)]
  ·rfl
  ·exact Jhn (by omega) (by omega)
 refine JtX ?_;have hi3:i=3:=by omega
 subst hi3;rw[Jum (by omega),show ([0,0,0]:List Int).drop 3=[] from rfl,List.append_nil];refine JtE (fun m vs=>∃ i:Nat,i≤2∧m=2-i∧vs=[.l (dL ((Qh a.d b.d n).take i++([0,0]:List Int).drop i)),.i i]) rfl 2 ⟨0,by omega,rfl,rfl⟩ ?_;rintro m _ ⟨i,hi,hm,rfl⟩;refine Jt2 ((i:Int)<2) rfl (fun h=>?_) (fun h=>?_)
 ·refine JtJ (ds:=dL a.d) i rfl rfl rfl (by omega) (JZ (by omega) (by omega)) rfl ?_;refine JtJ (ds:=dL b.d) i rfl rfl rfl (by omega) (JZ (by omega) (by omega)) rfl ?_;refine JtF ((0:Int)≤i) rfl (by omega) ?_;have hlen:((Qh a.d b.d n).take i++([0,0]:List Int).drop i).length=2:=by simp[hT];omega
  refine JtF ((i:Int)<((dL ((Qh a.d b.d n).take i++([0,0]:List Int).drop i)).length:Int)) rfl (by rw[dL1,hlen];omega) ?_;refine JtJ (ds:=dL ((Qh a.d b.d n).take i++([0,0]:List Int).drop i)) i rfl rfl rfl (by omega) (JZ (by omega) (by omega)) rfl ?_;refine JtH (vs:=[.l (dL ((Qh a.d b.d n).take (i+1)++([0,0]:List Int).drop (i+1))),.i ((i+1:Nat):Int)]) ?_ ⟨m-1,by omega,i+1,by omega,by omega,rfl⟩;show [V.l ((dL ((Qh a.d b.d n).take i++([0,0]:List Int).drop i)).set (i:Int).toNat (dI (i64.wrap (a.d.getD (i:Int).toNat 0+i64.wrap (n*b.d.getD (i:Int).toNat 0))))),V.i (i64.wrap ((i:Int)+1))]=_;have hx:=XI ha.ld (k:=(i:Int).toNat) (by omega);have hy:=XI hb.ld (k:=(i:Int).toNat) (by omega);rw[VL hx hy hn hM (by omega),QL,Int.toNat_natCast,fill (by rw[hT];rfl),w64 (by omega) (by omega)]
  ·rfl
  ·exact Jhn (by omega) (by omega)
 refine JtX ?_;have hi2:i=2:=by omega
 subst hi2;rw[Jum (by omega),show ([0,0]:List Int).drop 2=[] from rfl,List.append_nil];refine Jt9 ?_;show [D.s (dL (Qh a.c b.c n)),.s (dL (Qh a.d b.d n)),dI (i64.wrap (a.k+i64.wrap (n*b.k)))]=_;rw[VL ha.k hb.k hn hM (by omega)];rfl
theorem ZI (v:Int) (h0:0≤v) (h2:v≤2):Ev L f_ku [dI v] (JA v.toNat).cells:=by
 refine Jud (vs:=[.i v]) L_ku rfl ?_;refine JtK (args:=[dI v,dI 0,dI 2]) rfl rfl (JQ v 0 2) rfl ?_;refine JtG (by show (!(inB v 0 2))=false;simp[inB,h0,h2]) ?_;refine JtK (args:=[]) rfl rfl XR rfl ?_;refine JtF (0≤v) rfl h0 ?_;refine JtF (v<3) rfl (by omega) ?_;refine JtJ (ds:=dL [0,0,0]) v rfl rfl rfl h0 (JZ h0 (by simp;omega)) rfl ?_;refine Jt9 ?_;show [D.s ((dL [0,0,0]).set v.toNat (dI 1)),.s (dL [0,0]),dI 0]=_;rw[QL];rfl
theorem YF {l:List Frm} {M:Int} (hl:l.length≤2000000) (hs :∀f∈l,Std M f) (h0:0≤M) (hM:M≤1000000000):Ev L f_kw [.s (dF l)] [.s (dF l)]:=by
 refine Jud (vs:=[.l (dF l)]) L_kw rfl ?_;refine JtE (fun m vs=>∃ i:Int,0≤i∧i≤l.length∧(m:Int)=l.length-i∧vs=[.l (dF (l.take i.toNat)),.i i]) rfl l.length ⟨0,by omega,by omega,by omega,rfl⟩ ?_;rintro m _ ⟨i,i0,i1,hm,rfl⟩;refine Jt2 (i<((dF l).length:Int)) rfl (fun hi=>?_) (fun hi=>?_)
 ·rw[J4] at hi;refine JtK (args:=[]) rfl rfl XR rfl ?_;obtain⟨x,hx,hd⟩:=JbG i0 hi;have hsx:=hs x (Jup hx);refine JtJ (ds:=dF l) i rfl rfl rfl i0 hd rfl ?_;have e:=VC (Xn.mono h0) hsx hM (n:=1) (by omega);rw[Jf0 hsx] at e;refine JtK (args:=Frm.zero.cells++x.cells++[dI 1]) rfl rfl e rfl ?_;refine Jub (dF (l.take i.toNat)++[x.g]) rfl (by rw[Xl,J4];simp;omega) ?_;refine JtH (vs:=[.l (dF (l.take (i+1).toNat)),.i (i+1)]) ?_ ⟨m-1,by omega,i+1,by omega,by omega,by omega,rfl⟩;show [V.l (dF (l.take i.toNat)++[x.g]),V.i (i64.wrap (i+1))]=_;rw[Xl,show (i+1).toNat=i.toNat+1 by omega,tS1 hx,w64 (by omega) (by omega)]
 ·rw[J4] at hi;refine JtX (Jt9 ?_);show [D.s (dF (l.take i.toNat))]=_;rw[Jum (by omega)]
theorem JjP {f:Frm} {M:Int} (hf:Std M f) (h0:0≤M) (hM:M≤100000000):Ev L f_kz f.cells (QT f).cells:=by
 refine Jud (vs:=[.l (dL f.c),.l (dL f.d),.i f.k]) L_kz rfl ?_;refine JtK (args:=[]) rfl rfl XR rfl ?_;refine JtK (args:=Frm.zero.cells++f.cells++[dI (-1)]) rfl rfl (VC (Xn.mono h0) hf (by omega) (by omega)) rfl ?_;refine Jt9 ?_;have hk:=(QU Xn hf (n:=-1) (N:=1) (by omega)).k;show [D.s (dL (JV Frm.zero f (-1)).c),.s (dL (JV Frm.zero f (-1)).d),dI (i64.wrap ((JV Frm.zero f (-1)).k-1))]=_;rw[w64 (by omega) (by omega)];rfl
theorem Jj2 {f:Frm} {pots:List Frm} {M:Int} (hf:f.small=true) (hl:pots.length=3) (hp :∀p∈pots,Std M p) (h0:0≤M) (hM:M≤1000000) :
  Ev L f_ky (f.cells++[.s (dF pots)]) (Js f pots).cells:=by
 obtain⟨f1,f2,f3,f4,f5⟩:=XE hf;have hfs:=JeV hf;refine Jud (vs:=[.l (dL f.c),.l (dL f.d),.i f.k,.l (dF pots)]) L_ky rfl ?_;have ok :∀g:Frm,Std (20+6*M) g→Ev L f_kx g.cells [dB true]:=fun g hg=>by
  have:=Jih g hg.fit
  rwa [hg.okF (by omega)] at this
 refine JtK (args:=f.cells) rfl rfl (ok f (hfs.mono (by omega))) rfl ?_;refine JtG rfl ?_;have c0:bol (Jm ([V.l (dL f.c),V.l (dL f.d),V.i f.k,V.l (dF pots)]++[V.b true])) (.not (.cmp .eq (.len (.v 3)) (.z 3)))=decide (¬(pots.length:Int)=3):=by
  simp[bol,den,V.bool,V.int,V.lst,CO.sem,Jm,J4]
 refine Jt2 (¬(pots.length:Int)=3) c0 (fun h=>by omega) (fun _=>?_);obtain⟨p0,h00,d0⟩:=JbG (l:=pots) (i:=0) (by omega) (by omega);obtain⟨p1,h11,d1⟩:=JbG (l:=pots) (i:=1) (by omega) (by omega);obtain⟨p2,h22,d2⟩:=JbG (l:=pots) (i:=2) (by omega) (by omega);refine JtJ (ds:=dF pots) 0 rfl rfl rfl (by omega) d0 rfl ?_;refine JtK (args:=p0.cells) rfl rfl (ok p0 ((hp p0 (Jup h00)).mono (by omega))) rfl ?_;refine JtG rfl ?_;refine JtJ (ds:=dF pots) 1 rfl rfl rfl (by omega) d1 rfl ?_;refine JtK (args:=p1.cells) rfl rfl (ok p1 ((hp p1 (Jup h11)).mono (by omega))) rfl ?_;refine JtG rfl ?_;refine JtJ (ds:=dF pots) 2 rfl rfl rfl (by omega) d2 rfl ?_;refine JtK (args:=p2.cells) rfl rfl (ok p2 ((hp p2 (Jup h22)).mono (by omega))) rfl ?_;refine JtG rfl ?_;refine Jub (dL f.d) rfl (by rw[dL1];omega) ?_;refine JtS (by show Yb 1 (dL f.d)=true;cases f.d <;> rfl) ?_;refine Jub (dL f.d) rfl (by rw[dL1];omega) ?_
 let acc:Nat→Frm:=fun i=>(List.zip (pots.take i) (f.c.take i)).foldl (fun x q=>JV x q.1 q.2) ⟨[0,0,0],f.d,f.k⟩
 have hacc :∀i,i≤3→Std (20+6*M) (acc i):=fun i hi=>by
  rcases Jer hf hp h0 i hi with h | h
  ·refine h.mono ?_;have:2*M*(i:Int)≤2*M*3:=Int.mul_le_mul_of_nonneg_left (by omega) (by omega);omega
  ·omega
 refine JtE (fun m vs=>∃ i:Nat,i≤3∧m=3-i∧vs=[.l (dL (acc i).c),.l (dL (acc i).d),.i i,.i (acc i).k]) rfl 3 ⟨0,by omega,rfl,rfl⟩ ?_;rintro m _ ⟨i,hi,hm,rfl⟩;refine Jt2 ((i:Int)<3) rfl (fun h=>?_) (fun h=>?_)
 ·obtain⟨x,hx,hd⟩:=JbG (l:=pots) (i:=(i:Int)) (by omega) (by omega);have hsx:=hp x (Jup hx);refine JtJ (ds:=dF pots) i rfl rfl rfl (by omega) hd rfl ?_;refine JtJ (ds:=dL f.c) i rfl rfl rfl (by omega) (JZ (by omega) (by omega)) rfl ?_;have hy:=XI f3 (k:=(i:Int).toNat) (by omega);have hn:acc (i+1)=JV (acc i) x (f.c.getD (i:Int).toNat 0):=by
   rw[Int.toNat_natCast] at hx;have e2:f.c[i]? = some (f.c.getD (i:Int).toNat 0):=by simp[Jul,show i<f.c.length by omega]
   simp only[acc];rw[tS1 hx,tS1 e2,List.zip_append (by simp;omega),List.foldl_append];rfl
  refine JtK (args:=(acc i).cells++x.cells++[dI (f.c.getD (i:Int).toNat 0)]) rfl rfl (VC (hacc i hi) (hsx.mono (by omega)) (by omega) (by omega)) rfl ?_;refine JtH (vs:=[.l (dL (acc (i+1)).c),.l (dL (acc (i+1)).d),.i ((i+1:Nat):Int),.i (acc (i+1)).k]) ?_ ⟨m-1,by omega,i+1,by omega,by omega,rfl⟩;rw[hn];show [V.l _,V.l _,V.i (i64.wrap ((i:Int)+1)),V.i _]=_;rw[w64 (by omega) (by omega)];rfl
 refine JtX ?_;have hi3:i=3:=by omega
 subst hi3;refine JtK (args:=(acc 3).cells) rfl rfl (ok _ (hacc 3 (by omega))) rfl ?_;refine JtG rfl ?_;refine Jt9 ?_;show (acc 3).cells=_;simp only[acc];rw[Jum (by omega),Jum (by omega)];rfl
end Go.Proofs.YtofcmnglieaoeaaGreatDoor
