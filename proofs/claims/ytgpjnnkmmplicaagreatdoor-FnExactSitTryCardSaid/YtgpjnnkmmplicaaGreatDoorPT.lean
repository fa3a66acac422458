import Derived.Test.YtgpjnnkmmplicaaGreatDoorPN
import Derived.Test.YtgpjnnkmmplicaaGreatDoorPI
import Derived.Test.YtgpjnnkmmplicaaGreatDoorTd
set_option linter.unusedVariables false
set_option linter.unusedSimpArgs false
/- What the program's ways through an act come to. -/
namespace Go.Proofs.YtgpjnnkmmplicaaGreatDoor
open Go Go.Tm
open Go.IntKind (i64)
theorem Jfw (f:Frm) (hf:Frm.fit f):Ev L f_k2u f.cells [dB (!f.ok)] :=
 Jq7 (vs:=[.l (dL f.c),.l (dL f.d),.i f.k]) L_k2u rfl (JqC (Yp f hf) rfl rfl rfl (JqK rfl))
theorem Jar (p:Frm→Bool) (l:List Frm) {fn:FuncId} {caps:List D} (hlen:l.length≤2000000) (hcap:QZ (.f fn caps) = .f fn caps) (har:arT L fn=some ([some 3]++caps.map fun _=>none))
  (hc :∀x∈l,Ev L fn (x.cells++caps.map D.norm) [dB (p x)]):Ev L f_k2t [.s (dF l),.f fn caps] [dB (l.any p)] :=
 YJ (g := f_k2s) L_k2t rfl hcap
   (Yl (sh:= .g [.s,.s,.i .i64]) (as:=[(.s (.v 3)),(.s (.v 4)),(.vi .i64 (.v 5))]) (ar:=[some 3]) (k:=6) Frm.g p Frm.cells (fun x=>[.l (dL x.c),.l (dL x.d),.i x.k]) l
     L_k2s rfl hlen hcap (fun _ _=>rfl) (fun _ _=>rfl) (fun _ _ _ _=>rfl) har hc)
def JfK (f:Frm) (pots:List Frm) (i:Nat):Frm:=(List.zip (pots.take i) (f.c.take i)).foldl (fun x q=>JJ x q.1 q.2) Frm.zero
theorem JdT {f:Frm} {pots:List Frm} {i:Nat} {p:Frm} {n:Int} (hp:pots[i]? = some p) (hn:f.c[i]? = some n):JfK f pots (i+1)=JJ (JfK f pots i) p n:=by
 have h1:=(Jra.1 hp).1;have h2:=(Jra.1 hn).1;simp only[JfK];rw[tS1 hp,tS1 hn,List.zip_append (by simp;omega),List.foldl_append];rfl
theorem JmJ {f:Frm} {pots:List Frm} {M:Int} (hf:f.small=true) (hp :∀p∈pots,Std M p) (hl:pots.length=3) (h0:0≤M) (i:Nat) (hi:i≤3):Std (2*M*i) (JfK f pots i):=by
 obtain⟨h1,h2,h3,h4,h5⟩:=Xt hf
 induction i with
 | zero=>exact Xg.mono (by omega)
 | succ i ih =>
  have ih:=ih (by omega);obtain⟨p,hp1,hp2⟩:=sA1 (show i<pots.length by omega);obtain⟨n,hn1,hn2⟩:=sA1 (show i<f.c.length by omega);rw[JdT hp1 hn1];have:=Qv ih (hp _ hp2) (h3 _ hn2);refine this.mono ?_
  push_cast
  rw[Int.mul_add];omega
theorem Jlg {f:Frm} {pots:List Frm} {M:Int} (hf:f.small=true) (hp :∀p∈pots,Std M p) (hl:pots.length=3) :
  Jo f pots=⟨(JfK f pots 3).c,Jbr (JfK f pots 3).d f.d 1,(JfK f pots 3).k+1*f.k⟩:=by
 obtain⟨h1,h2,_⟩:=Xt hf
 match pots,hl with
 | [⟨c,d,k⟩,⟨c',d',k'⟩,⟨c'',d'',k''⟩],_ =>
  have s1:=hp ⟨c,d,k⟩ (by simp);have s2:=hp ⟨c',d',k'⟩ (by simp);have s3:=hp ⟨c'',d'',k''⟩ (by simp);obtain⟨fc,fd,fk⟩:=f;obtain⟨x,y,z,rfl⟩:=Jai h1;obtain⟨u,v,rfl⟩:=Jh5 h2;obtain⟨a1,a2,a3,rfl⟩:=Jai s1.c;obtain⟨b1,b2,rfl⟩:=Jh5 s1.d;obtain⟨a1',a2',a3',rfl⟩:=Jai s2.c;obtain⟨b1',b2',rfl⟩:=Jh5 s2.d;obtain⟨a1'',a2'',a3'',rfl⟩:=Jai s3.c;obtain⟨b1'',b2'',rfl⟩:=Jh5 s3.d;simp[Jo,JfK,JJ,JM,Jbr,Frm.zero];omega
theorem JnC {f:Frm} {pots:List Frm} {M:Int} (hf:f.small=true) (hl:pots.length=3) (hp :∀p∈pots,Std M p) (h0:0≤M) (hM:M≤1000000) :
  Ev L f_k2x (f.cells++[.s (dF pots)]) (Jo f pots).cells:=by
 obtain⟨f1,f2,f3,f4,f5⟩:=Xt hf;have hfs:=Jei hf;refine Jq7 (vs:=[.l (dL f.c),.l (dL f.d),.i f.k,.l (dF pots)]) L_k2x rfl ?_;have e:=Yp f hfs.fit;rw[hfs.okF (by omega)] at e;refine JqC e rfl rfl rfl (JqM rfl ?_);refine JqL (¬(pots.length:Int)=3) ?_ (fun h=>by omega) (fun _=>?_)
 ·show (!(decide (((dF pots).length:Int)=3)))=_;rw[JL];simp
 have hany:pots.any (fun p=>!p.ok)=false:=by
  rw[List.any_eq_false];intro p hpm;rw[(hp p hpm).okF (by omega)];simp
 have e2:=Jar (fun p=>!p.ok) pots (fn:=f_k2u) (caps:=[]) (by omega) rfl rfl fun p hpm=>by
  rw[List.map_nil,List.append_nil];exact Jfw p (hp p hpm).fit
 rw[hany] at e2;refine JqC e2 rfl rfl rfl (JqM rfl ?_);refine JqC Wf rfl rfl rfl ?_;simp only[sC,sN];have hstd:=JmJ hf hp hl h0;refine JqS 3 (fun i vs=>∃ a:Frm,a=JfK f pots i∧vs=[.l (dL a.c),.l (dL a.d),.i i,.i a.k]) rfl ⟨Frm.zero,rfl,rfl⟩ ?_;rintro i _ hi ⟨a,ha,rfl⟩;have hs:=hstd i hi;rw[←ha] at hs;simp only[sC,sN];refine Jqv i (JL pots) rfl (fun h=>?_) (fun h=>?_)
 ·obtain⟨p,hp1,hp2⟩:=sA1 h;obtain⟨n,hn1,hn2⟩:=sA1 (show i<f.c.length by omega);refine JqJ i (mA1 (f:=Frm.g) hp1) rfl rfl rfl rfl ?_;refine JqJ i (mA1 (f:=dI) hn1) rfl rfl rfl rfl ?_;have hb:2*M*(i:Int)≤2*M*3:=Int.mul_le_mul_of_nonneg_left (by omega) (by omega);have hn:=f3 n hn2;refine JqC (JbE (M:=6*M) (hs.mono (by omega)) ((hp p hp2).mono (by omega)) (by omega) (n:=n) (by omega)) rfl rfl rfl ?_;have hA:=JdT hp1 hn1;rw[←ha] at hA;refine JqI (vs:=[.l (dL (JJ a p n).c),.l (dL (JJ a p n).d),.i ((i+1:Nat):Int),.i (JJ a p n).k]) ?_ ⟨by omega,JJ a p n,hA.symm,rfl⟩;show [V.l (dL (JJ a p n).c),.l (dL (JJ a p n).d),.i (i64.wrap ((i:Int)+1)),.i (JJ a p n).k]=_;rw[wS h (by omega)]
 ·refine JqG ?_;have hi3:i=3:=by omega
  subst hi3;have e3:=JmZ (a:=a) (b:=⟨[],f.d,f.k⟩) (n:=1) (M:=6*M+20) (hs.lc.mono (by omega)) (hs.ld.mono (by omega)) (by have:=hs.k;omega) (by intro x hx;simp at hx) (hfs.ld.mono (by omega)) (by have:=hfs.k;show -(6*M+20)≤f.k∧f.k≤6*M+20;omega)
   (by simp) (by show f.d.length≤a.d.length;rw[hs.d];omega) (by rw[hs.c];omega) (by rw[hs.d];omega) (by omega) (by omega)
  refine JqC e3 rfl rfl rfl ?_;simp only[sC,sN];have hin:=Jlg hf hp hl;rw[←ha] at hin;have hic:=UO hf hl hp h0;rw[Jnj];have e4:=V0 hic (by omega);rw[hin] at e4 ⊢;exact JqC e4 rfl rfl rfl (JqK rfl)
theorem Jb5 (l:List Row) (r:Row):JY l++[r.g]=JY (l++[r]):=by simp[JY]
theorem Je6 {l:List Frm} {M:Int} (h :∀f∈l,Std M f) :∀f∈l,Frm.fit f:=fun f hf=>(h f hf).fit
set_option maxHeartbeats 2000000 in
theorem JnZ {act:List Jd} (hact:Qf act) :∀(n:Nat) (at_:Int) (p g t:List Frm) (rows:List Row) (j:Nat),0≤at_→at_≤20→act.length-at_.toNat=n→(j:Int)≤at_→j≤6 →
  p.length=3→(∀f∈p,Std (Bd j) f)→g.length≤j→(∀f∈g,Std 10000000 f)→t.length≤j→(∀f∈t,Std 10000000 f)→rows.length+(walk (act.drop at_.toNat) p g t).length≤1000 →
  Ev L f_k30 [.s (Jn act),.s (JY rows),dI at_,.s (dF g),.s (dF p),.s (dF t)] [.s (Jn act),.s (JY (rows++walk (act.drop at_.toNat) p g t))]:=by
 intro n
 induction n using Nat.strongRecOn with
 | _ n ih =>
  intro at_ p g t rows j a0 a20 hn hj hj6 hp sp hg sg ht st hlen;have hal:=hact.len;refine Jq7 (vs:=[.l (Jn act),.l (JY rows),.i at_,.l (dF g),.l (dF p),.l (dF t)]) L_k30 rfl ?_;refine JqU (fun m vs=>∃ (i:Int) (p' g' t':List Frm) (rs:List Row) (j':Nat),vs=[.l (JY rs),.i i,.l (dF g'),.l (dF p'),.l (dF t'),.l (Jn act)]∧at_≤i∧i≤20∧m=act.length-i.toNat∧(j':Int)≤i∧j≤j'∧j'≤6∧p'.length=3∧(∀f∈p',Std (Bd j') f)∧g'.length≤j'∧(∀f∈g',Std 10000000 f)∧t'.length≤j'∧(∀f∈t',Std 10000000 f) ∧
   rs++walk (act.drop i.toNat) p' g' t'=rows++walk (act.drop at_.toNat) p g t) rfl (act.length-at_.toNat) ⟨at_,p,g,t,rows,j,rfl,by omega,a20,rfl,hj,by omega,hj6,hp,sp,hg,sg,ht,st,rfl⟩ ?_
  rintro m _ ⟨i,p',g',t',rs,j',rfl,ai,i20,hm,hj',hjj,hj6',hp',sp',hg',sg',ht',st',hw⟩;simp only[sC,sN];have hlen':rs.length+(walk (act.drop i.toNat) p' g' t').length≤1000:=by
   rw[←Jrf,hw,Jrf];exact hlen
  rw[←hw];clear hw hlen;have hB:=Jgt hj6';have hB0:=Yo j';have fg:=Je6 sg';have fp:=Je6 sp';have ft:=Je6 st';refine JqL (i<((Jn act).length:Int)) rfl (fun hi=>?_) (fun hi=>?_)
  ·rw[Qt] at hi;obtain⟨l,hl,hd⟩:=Jc1 (a:=act) (i:=i) (by omega) hi;have hok:=hact.ok l (Jrg hl);have hdr:=ZY hl;have hs1:(i+1).toNat=i.toNat+1:=by omega
   refine JqO (ds:=Jn act) i rfl rfl rfl (by omega) hd rfl ?_;simp only[sC,sN];refine JqL (l.kind=4) rfl (fun h4=>?_) (fun h4=>?_)
   ·refine JqC (X6 g' (by omega) fg) rfl rfl rfl ?_;refine JqR (JY rs) 1000 (by rw[Xv];omega) (by omega) rfl ?_;refine JqG (JqK ?_);show [D.s (Jn act),D.s (JY rs++[Row.g ⟨g',[],[],true⟩])]=_;rw[Jb5,hdr,walk,if_pos h4]
   have hsm:=JgJ hok h4;have hin:=UO hsm hp' sp' hB0;have hin7:Std 10000000 (Jo l.f p'):=hin.mono (by omega);refine JqC (JnC hsm hp' sp' hB0 (by omega)) rfl rfl rfl ?_;simp only[sC,sN];have hj5:j'<6:=by omega
   refine JqL (l.kind=1) rfl (fun h1=>?_) (fun h1=>?_)
   ·have hsk:=Jkj hok h1;have hwk:walk (act.drop i.toNat) p' g' t'=walk (act.drop (i+1).toNat) p' (g'++[Jo l.f p']) t'++walk (act.drop (i+l.skip+1).toNat) p' (g'++[Qs (Jo l.f p')]) t':=by
     rw[hdr,walk,if_neg h4,if_pos h1,List.drop_drop,hs1,show i.toNat+1+l.skip.toNat=(i+l.skip+1).toNat by omega]
    have hmin:Std 10000000 (Qs (Jo l.f p')):=(VP hin).mono (by omega);have spB :∀f∈p',Std (Bd (j'+1)) f:=fun f hf=>(sp' f hf).mono (ZO (by omega));rw[hwk,Jrf] at hlen';rw[hwk];have hns:=Qv Xg hin (n:=-1) (N:=1) (by omega);generalize hF:Jo l.f p'=F at *;refine JqC (X6 g' (by omega) fg) rfl rfl rfl ?_;refine JqR (dF g') 1000 (by rw[JL];omega) (by omega) rfl ?_;refine JqC (X6 p' (by omega) fp) rfl rfl rfl ?_;refine JqC (X6 t' (by omega) ft) rfl rfl rfl ?_;simp only[sC,sN];have e1:=ih (act.length-(i+1).toNat) (by omega) (i+1) p' (g'++[F]) t' rs (j'+1) (by omega) (by omega) rfl (by omega) (by omega) hp' spB (by simp;omega) (Z3 sg' hin7) (by omega) st' (by omega);refine JqC e1 rfl ?_ rfl ?_
    ·show [D.s (Jn act),.s (JY rs),dI (i64.wrap (i+1)),.s (dF g'++[F.g]),.s (dF p'),.s (dF t')]=_;rw[QO,w64 (by omega) (by omega)]
    simp only[sC,sN];refine JqC (JeD hin7 (by omega) (n:=-1) (by omega) (by omega)) rfl rfl rfl ?_;refine JqC (X6 g' (by omega) fg) rfl rfl rfl ?_;refine JqR (dF g') 1000 (by rw[JL];omega) (by omega) rfl ?_;simp only[sC,sN];refine JqI (vs:=[.l (JY (rs++walk (act.drop (i+1).toNat) p' (g'++[F]) t')),.i (i+l.skip+1),.l (dF (g'++[Qs F])),.l (dF p'),.l (dF t'),.l (Jn act)]) ?_
     ⟨act.length-(i+l.skip+1).toNat,by omega,i+l.skip+1,p',g'++[Qs F],t',_,j'+1,rfl,by omega,by omega,rfl,by omega,by omega,by omega,hp',spB,by simp;omega,Z3 sg' hmin,by omega,st',?_⟩
    ·have hk:=hns.k;show [V.l (JY (rs++walk (act.drop (i+1).toNat) p' (g'++[F]) t')),V.i (i64.wrap (i64.wrap (i+l.skip)+1)),V.l (dF g'++[Frm.g ⟨(JJ Frm.zero F (-1)).c,(JJ Frm.zero F (-1)).d,i64.wrap ((JJ Frm.zero F (-1)).k-1)⟩]),V.l (dF p'),V.l (dF t'),V.l (Jn act)]=_;rw[QO,w64 (n:=i+l.skip) (by omega) (by omega),w64 (n:=i+l.skip+1) (by omega) (by omega),w64 (n:=(JJ Frm.zero F (-1)).k-1) (by omega) (by omega)];rfl
    ·rw[List.append_assoc]
   refine JqL (l.kind=2) rfl (fun h2=>?_) (fun h2=>?_)
   ·have hpt:=JnJ hok h2;have hlt:l.pot.toNat<p'.length:=by omega
    obtain⟨hm1,hm2⟩:=JgZ hlt;have hdg:(dF p')[l.pot.toNat]? = some (p'.getD l.pot.toNat Frm.none).g:=mA1 (f:=Frm.g) hm2;have hwk:walk (act.drop i.toNat) p' g' t'=walk (act.drop (i+1).toNat) (p'.set l.pot.toNat (JJ (p'.getD l.pot.toNat Frm.none) (Jo l.f p') 1)) g' t':=by
     rw[hdr,walk,if_neg h4,if_neg h1,if_pos h2,hs1]
    rw[hwk];have hsum:Std (Bd (j'+1)) (JJ (p'.getD l.pot.toNat Frm.none) (Jo l.f p') 1):=(Qv (sp' _ hm1) hin (n:=1) (N:=1) (by omega)).mono (by simp only[Bd];omega);have hsp1:=sp' _ hm1;generalize p'.getD l.pot.toNat Frm.none=q at *;generalize Jo l.f p'=F at *;refine JqC (X6 p' (by omega) fp) rfl rfl rfl ?_;refine JqF (0≤l.pot) rfl hpt.1 ?_;refine JqF (l.pot<((dF p').length:Int)) rfl (by rw[JL];omega) ?_;refine JqO (ds:=dF p') l.pot rfl rfl rfl hpt.1 hdg rfl ?_;simp only[sC,sN];refine JqC (JjY (M:=5000000) (hsp1.mono (by omega)) (hin.mono (by omega)) (by omega) (by omega)) rfl rfl rfl ?_;refine JqF (0≤l.pot) rfl hpt.1 ?_;refine JqF (l.pot<((dF p').length:Int)) rfl (by rw[JL];omega) ?_;refine JqO (ds:=dF p') l.pot rfl rfl rfl hpt.1 hdg rfl ?_;simp only[sC,sN];refine JqI (vs:=[.l (JY rs),.i (i+1),.l (dF g'),.l (dF (p'.set l.pot.toNat (JJ q F 1))),.l (dF t'),.l (Jn act)]) ?_
     ⟨act.length-(i+1).toNat,by omega,i+1,p'.set l.pot.toNat (JJ q F 1),g',t',rs,j'+1,rfl,by omega,by omega,rfl,by omega,by omega,by omega,by simp[hp'],?_,by omega,sg',by omega,st',rfl⟩
    ·show [V.l (JY rs),V.i (i64.wrap (i+1)),V.l (dF g'),V.l ((dF p').set l.pot.toNat (JJ q F 1).g),V.l (dF t'),V.l (Jn act)]=_;rw[w64 (by omega) (by omega)];simp only[dF,List.map_set]
    ·intro f hf;rcases Jry hf with hf | hf
     ·exact(sp' f hf).mono (ZO (by omega))
     ·subst hf;exact hsum
   ·have h3:l.kind=3:=by
     have:=hok;unfold Jd.ok at this;rw[if_neg h1,if_neg h2] at this;split at this
     ·assumption
     ·simp[h4] at this
    have hwk:walk (act.drop i.toNat) p' g' t'=walk (act.drop (i+1).toNat) p' g' (t'++[Jo l.f p']):=by
     rw[hdr,walk,if_neg h4,if_neg h1,if_neg h2,hs1]
    rw[hwk];generalize Jo l.f p'=F at *;refine JqL (l.kind=3) rfl (fun _=>?_) (fun h=>absurd h3 h);refine JqC (X6 t' (by omega) ft) rfl rfl rfl ?_;refine JqR (dF t') 1000 (by rw[JL];omega) (by omega) rfl ?_;simp only[sC,sN];refine JqI (vs:=[.l (JY rs),.i (i+1),.l (dF g'),.l (dF p'),.l (dF (t'++[F])),.l (Jn act)]) ?_
     ⟨act.length-(i+1).toNat,by omega,i+1,p',g',t'++[F],rs,j'+1,rfl,by omega,by omega,rfl,by omega,by omega,by omega,hp',fun f hf=>(sp' f hf).mono (ZO (by omega)),by omega,sg',by simp;omega,Z3 st' hin7,rfl⟩
    show [V.l (JY rs),V.i (i64.wrap (i+1)),V.l (dF g'),V.l (dF p'),V.l (dF t'++[F.g]),V.l (Jn act)]=_;rw[QO,w64 (by omega) (by omega)]
  ·rw[Qt] at hi;have hwk:walk (act.drop i.toNat) p' g' t'=[Yy p' g' t']:=by rw[List.drop_eq_nil_of_le (by omega),walk]
   rw[hwk];rw[hwk] at hlen';refine JqG ?_;refine JqC (X6 g' (by omega) fg) rfl rfl rfl ?_;refine JqC (X6 t' (by omega) ft) rfl rfl rfl ?_;simp only[sC,sN];refine JqH 3 (fun v=>[.l (dF ((Zy p').take v)),.i v]) (fun _=>True) rfl rfl trivial fun v hv _=>?_;simp only[sC,sN];refine Jqv v (JL p') rfl (fun h=>?_) (fun h=>?_)
   ·obtain⟨x,hx,hmx⟩:=sA1 h;have hsx:=sp' x hmx;refine JqJ v (mA1 (f:=Frm.g) hx) rfl rfl rfl rfl ?_;refine JqC (Jbw v (by omega) (by omega)) rfl rfl rfl ?_;refine JqC (JeD (M:=10000000) (Qw.mono (by omega)) (by omega) (n:=-1) (by omega) (by omega)) rfl rfl rfl ?_;simp only[sC,sN];have hps:=Qv Xg (Qw (v:=(v:Int).toNat)) (n:=-1) (N:=1) (by omega);refine JqC (JjY (M:=5000000) (hsx.mono (by omega)) (hps.mono (by omega)) (by omega) (by omega)) rfl rfl rfl ?_;rw[JbO hsx Qw];refine Jq3 (X3 _) (Jq3 (X3 _) ?_);have hn:(Zy p')[v]? = some (JJ x (Ju (v:Int).toNat) (-1)):=by
     have e:p'.getD v Frm.none=x:=by rw[Jrc,hx];rfl
     subst e;rw[Int.toNat_natCast]
     match v,(show v<3 by omega) with
     | 0,_=>rfl
     | 1,_=>rfl
     | 2,_=>rfl
     | n+3,h=>omega
    refine JqR (dF ((Zy p').take v)) 1000 (by rw[JL];simp[Zy];omega) (by omega) rfl ?_;simp only[sC,sN];refine JqI (vs:=[.l (dF ((Zy p').take (v+1))),.i ((v+1:Nat):Int)]) ?_ ⟨by omega,rfl,trivial⟩;show [V.l (dF ((Zy p').take v)++[(JJ x (Ju (v:Int).toNat) (-1)).g]),V.i (i64.wrap ((v:Int)+1))]=_;rw[QO,tS1 hn,wS' (by omega)]
   ·have hv3:v=3:=by omega
    subst hv3;refine JqG ?_;refine JqR (JY rs) 1000 (by rw[Xv];omega) (by omega) rfl ?_;refine JqK ?_;show [D.s (Jn act),D.s (JY rs++[(Yy p' g' t').g])]=_;rw[Jb5]
theorem VR (act:List Jd) (hf:YS act):Ev L f_k31 [.s (Jn act)] [.s (JY (Jw act))]:=by
 refine Jq7 (vs:=[.l (Jn act)]) L_k31 rfl ?_;refine JqC (JeO act hf) rfl rfl rfl ?_;refine JqA (QI act) rfl (fun h=>JqK ?_) (fun h=>?_)
 ·show [D.s []]=_;simp[Jw,h,JY]
 have hpp :∀f∈[Ju 0,Ju 1,Ju 2],Std (Bd 0) f:=by
  intro f hf';simp at hf';rcases hf' with rfl | rfl | rfl <;> exact Qw
 refine JqH 3 (fun v=>[.l (dF ([Ju 0,Ju 1,Ju 2].take v)),.i v]) (fun _=>True) rfl rfl trivial fun v hv _=>?_;refine JqW v 3 rfl (fun h3=>?_) (fun h3=>?_)
 ·refine JqC (Jbw v (by omega) (by omega)) rfl rfl rfl ?_;refine Jq3 (X3 _) (Jq3 (X3 _) ?_);have hn:[Ju 0,Ju 1,Ju 2][v]? = some (Ju (v:Int).toNat):=by
   rw[Int.toNat_natCast]
   match v,h3 with
   | 0,_ | 1,_ | 2,_=>rfl
   | n+3,h=>omega
  refine JqR (dF ([Ju 0,Ju 1,Ju 2].take v)) 1000 (by rw[JL];simp;omega) (by omega) rfl ?_;refine JqI (vs:=[.l (dF ([Ju 0,Ju 1,Ju 2].take (v+1))),.i ((v+1:Nat):Int)]) ?_ ⟨h3,rfl,trivial⟩;show [V.l (dF ([Ju 0,Ju 1,Ju 2].take v)++[(Ju (v:Int).toNat).g]),V.i (i64.wrap ((v:Int)+1))]=_;rw[QO,tS1 hn,wS h3 (by omega)]
 ·have hv3:v=3:=by omega
  subst hv3;refine JqG ?_;have hw:=Zo act;rw[Jw,if_pos h] at hw;have e:=JnZ (Jdx h) act.length 0 [Ju 0,Ju 1,Ju 2] [] [] [] 0 (by omega) (by omega) (by simp) (by omega) (by omega) rfl hpp (by simp) (by simp) (by simp) (by simp) (by
   show 0+(walk (act.drop (0:Int).toNat) _ [] []).length≤1000;rw[show (0:Int).toNat=0 from rfl,List.drop_zero];omega)
  refine JqC e rfl rfl rfl (JqK ?_);show [D.s (JY ([]++walk (act.drop (0:Int).toNat) [Ju 0,Ju 1,Ju 2] [] []))]=_;simp[Jw,h]
/- What draws of any acts come to,and the comparisons of rows. -/
def JoJ (f:Frm):Prop:=f.c.length≤3∧f.d.length≤3
def JdV (a:List Jd):Prop:=a.length≤7∧∀l∈a,JoJ l.f
theorem JdV.fit {a:List Jd} (h:JdV a):YS a:=⟨by have:=h.1;omega,fun l hl=>⟨by have:=(h.2 l hl).1;omega,by have:=(h.2 l hl).2;omega⟩⟩
theorem JdV.set {a:List Jd} (h:JdV a) {x:Jd} (hx:JoJ x.f) (k:Nat):JdV (a.set k x):=by
 refine⟨by simp;exact h.1,fun l hl=>?_⟩;rcases Jry hl with hl | hl
 ·exact h.2 l hl
 ·subst hl;exact hx
/- Each way is ok,and there are at most two for each test: over residual programs. -/
def Jmi (g : FuncId) (sh : Sh) (as : List E) (k1 k2 : Nat) : R :=
  .ite (.not (.cmp .eq (.len (.v 0)) (.len (.v 1))))
   (
    .done [(.vb .ff)])
   (
    .loop 2 [(.z 0)] <|
      .ite (.cmp .lt (.v 2) (.len (.v 0)))
       (
        .i (.idx (.v 0) (.v 2) sh 3) <|
        .i (.idx (.v 1) (.v 2) sh k1) <|
        .i (.call g as [.b] k2) <|
        .ite (.not (.v k2))
         (
          .esc <|
          .done [(.vb .ff)])
         (
          .next [(.bin .add .i64 (.v 2) (.z 1))]))
       (
        .esc <|
        .done [(.vb .tt)]))
theorem JcL {α:Type} [DecidableEq α] {f g:FuncId} {H:XQ} {s:Sig} {sh:Sh} {as:List E} {k1 k2:Nat} (enc:α→D) (vsOf:α→List V) (args:α→List D) (a b:List α) (hf:L.lookup f=some ⟨s,.r H (Jmi g sh as k1 k2)⟩) (hs:Zn s=[.s,.s])
  (hb :∀x,YW sh (enc x)=some (vsOf x)) (hk1 :∀x,3+(vsOf x).length=k1) (hk2 :∀x,k1+(vsOf x).length=k2)
  (ha :∀(v0 v1 v2:V) (x y:α),as.map (dat (Jp ([v0,v1,v2]++vsOf x++vsOf y)))=args x++args y)
  (hc :∀x∈a,∀y,Ev L g (args x++args y) [dB (decide (x=y))]) (hl:a.length≤2000000) :
  Ev L f [.s (a.map enc),.s (b.map enc)] [dB (decide (a=b))]:=by
 refine Jq7 (vs:=[.l (a.map enc),.l (b.map enc)]) hf (by rw[hs];rfl) ?_;refine JqL (¬a.length=b.length) ?_ (fun h=>JqK ?_) (fun h=>?_)
 ·show (!(decide (((a.map enc).length:Int)=((b.map enc).length:Int))))=_;rw[Jri,Jri]
  by_cases h:a.length=b.length
  ·simp[h]
  ·simp[h,show ¬(a.length:Int)=b.length by omega]
 ·show [dB false]=_;rw[decide_eq_false];intro e;exact h (by rw[e])
 have h:a.length=b.length:=Classical.not_not.1 h;refine JqH a.length (fun i=>[.i i]) (fun i=>a.take i=b.take i) rfl rfl rfl fun i hi hp=>?_;refine Jqv i (Jri (f:=enc) (as:=a)) rfl (fun h'=>?_) (fun h'=>?_)
 ·obtain⟨x,hx,hmx⟩:=sA1 h';obtain⟨y,hy,_⟩:=sA1 (show i<b.length by omega);have k1x:=hk1 x;have k1y:=hk1 y;have k2x:=hk2 x;refine JqJ i (mA1 (f:=enc) hx) rfl rfl rfl (hb x) ?_;refine JqJ i (mA1 (f:=enc) hy) (by simp;omega) rfl rfl (hb y) ?_;refine Jqy (ds:=[dB (decide (x=y))]) (vs:=[.b (decide (x=y))]) (by simp;omega) (by
   show Ev L g (as.map (dat (Jp ([V.l (a.map enc),.l (b.map enc),.i i]++vsOf x++vsOf y)))) _;rw[ha];exact hc x hmx y) rfl ?_
  have e1 :∀(t:V),Jp ([V.l (a.map enc),.l (b.map enc),.i i]++vsOf x++vsOf y++[t]) k2=t:=by
   intro t;unfold Jp;rw[Jrc,JrB (by simp;omega)];rw[show k2-([V.l (a.map enc),.l (b.map enc),.i i]++vsOf x++vsOf y).length=0 by simp;omega];rfl
  refine JqA (decide (x=y)) (by show (!(den (Jp ([V.l (a.map enc),.l (b.map enc),.i i]++vsOf x++vsOf y++[V.b (decide (x=y))])) (.v k2)).bool)=_;simp only[den,e1];rfl) (fun hxy=>JqG (JqK ?_)) (fun hxy=>?_)
  ·show [dB false]=_;rw[decide_eq_false];intro e;subst e;rw[hx] at hy;simp only[Jq8] at hy;simp[hy] at hxy
  ·have hxy:x=y:=by simpa using hxy
   subst hxy;refine JqI (vs:=[.i ((i+1:Nat):Int)]) ?_ ⟨h',rfl,by show a.take (i+1)=b.take (i+1);rw[tS1 hx,tS1 hy,hp]⟩;show [V.i (i64.wrap ((i:Int)+1))]=_;rw[wS h' (by omega)]
 ·refine JqG (JqK ?_);rw[tA1 h',tA1 (by omega)] at hp;subst hp;show [dB true]=_;simp
theorem Jow (n:Int) (h0:0≤n) (hn:n≤2000000):Ev L f_k3b [dI n] [.s []]:=by
 refine Jq7 (vs:=[.i n]) L_k3b rfl ?_;have hw:i64.wrap (n-i64.wrap (0-0))=n:=by rw[w64 (n:=0-0) (by omega) (by omega),w64 (by omega) (by omega)];omega
 refine JqL (n<0) rfl (fun h=>by omega) (fun _=>?_);refine JqL (0<n) (by show decide (0<i64.wrap (n-i64.wrap (0-0)))=_;rw[hw]) (fun h=>?_) (fun h=>JqK rfl);refine JqF (0<n) (by show decide (0<i64.wrap (n-i64.wrap (0-0)))=_;rw[hw]) h ?_;refine JqF (n≤1256584717458) (by show decide (i64.wrap (n-i64.wrap (0-0))≤1256584717458)=_;rw[hw]) (by omega) ?_;refine JqV ?_ (JqK ?_)
 ·show decide ((0:Int)≤((List.replicate (i64.wrap (n-i64.wrap (0-0))).toNat (D.g [.s [],.s [],dI 0])).length:Int))=true;simp only[decide_eq_true_eq];omega
 ·show [D.s ((List.replicate (i64.wrap (n-i64.wrap (0-0))).toNat (D.g [.s [],.s [],dI 0])).take (0:Int).toNat)]=_;simp
def dFF (ls:List (List Frm)):List D:=ls.map fun l=> .s (dF l)
theorem Jko (ls:List (List Frm)):(dFF ls).length=ls.length:=by simp[dFF]
theorem JoY (a b:List Frm):dF a++dF b=dF (a++b):=by simp[dF]
def KY (ls:List (List Frm)):Nat:=(ls.map List.length).sum
theorem JlC {ls:List (List Frm)} {i:Nat} {l:List Frm} (h:ls[i]? = some l):KY (ls.take (i+1))=KY (ls.take i)+l.length:=by
 unfold KY;rw[tS1 h];simp
theorem Jlj (ls:List (List Frm)):ls.flatten.length=KY ls:=by simp[KY,List.length_flatten]
theorem Joe {ls:List (List Frm)} {N:Nat} (h :∀l∈ls,l.length≤N) (i:Nat):KY (ls.take i)≤N*ls.length:=by
 have :∀(ls:List (List Frm)),(∀l∈ls,l.length≤N)→KY ls≤N*ls.length:=by
  intro ls
  induction ls with
  | nil=>intro _;simp[KY]
  | cons l ls ih =>
   intro h;have h1:=h l (by simp);have h2:=ih fun x hx=>h x (by simp[hx]);simp only[KY,Jrh,List.sum_cons,List.length_cons,Nat.mul_add] at *;omega
 have h1:=this (ls.take i) fun l hl=>h l (Jrx hl);refine Nat.le_trans h1 (Nat.mul_le_mul_left _ (by simp;omega))
theorem JkP (ls:List (List Frm)) (hl:ls.length≤100) (h1 :∀l∈ls,l.length≤1000):Ev L f_k3c [.s (dFF ls)] [.s (dF ls.flatten)]:=by
 refine Jq7 (vs:=[.l (dFF ls)]) L_k3c rfl ?_;have hle :∀i,KY (ls.take i)≤100000:=fun i=>Nat.le_trans (Joe h1 i) (by omega);refine JqH ls.length (fun i=>[.i (KY (ls.take i)),.i i]) (fun _=>True) rfl rfl trivial fun i hi _=>?_;have hli:=hle i;refine Jqv i (Jko ls) rfl (fun h=>?_) (fun h=>?_)
 ·obtain⟨x,hx,hm⟩:=sA1 h;have hxl:=h1 x hm;refine JqJ i (mA1 (f:=fun l=> .s (dF l)) hx) rfl rfl rfl rfl ?_;have hw:i64.wrap ((KY (ls.take i):Int)+((dF x).length:Int))=(KY (ls.take (i+1)):Int):=by
   rw[JL,JlC hx,w64 (by omega) (by omega)];rfl
  refine JqL (((KY (ls.take (i+1)):Int))<0) (by show decide (i64.wrap ((KY (ls.take i):Int)+((dF x).length:Int))<0)=_;rw[hw]) (fun h=>by omega) (fun _=>?_);refine JqI (vs:=[.i (KY (ls.take (i+1))),.i ((i+1:Nat):Int)]) ?_ ⟨h,rfl,trivial⟩;show [V.i (i64.wrap ((KY (ls.take i):Int)+((dF x).length:Int))),V.i (i64.wrap ((i:Int)+1))]=_;rw[wS h (by omega),hw]
 ·refine JqG ?_;refine JqC (Jow (KY (ls.take i)) (by omega) (by omega)) rfl rfl rfl ?_;simp only[sC,sN];refine JqH ls.length (fun j=>[.l (dF (ls.take j).flatten),.i j]) (fun _=>True) rfl rfl trivial fun j hj _=>?_;simp only[sC,sN];refine Jqv j (Jko ls) rfl (fun h=>?_) (fun h=>?_)
  ·obtain⟨x,hx,hm⟩:=sA1 h;have hxl:=h1 x hm;have hlj:=hle j;refine JqJ j (mA1 (f:=fun l=> .s (dF l)) hx) rfl rfl rfl rfl ?_;refine JqQ (dF x) 1000 (by rw[JL];exact hxl) (by omega) rfl ?_;refine Jqx (JoG x) ?_;refine JqQ (dF (ls.take j).flatten++dF x) 2000000 (by rw[Jrf,JL,JL,Jlj];omega) (by omega) rfl ?_;refine JqI (vs:=[.l (dF (ls.take (j+1)).flatten),.i ((j+1:Nat):Int)]) ?_ ⟨h,rfl,trivial⟩;show [V.l (dF (ls.take j).flatten++dF x),V.i (i64.wrap ((j:Int)+1))]=_;rw[wS h (by omega),JoY,tS1 hx];simp
  ·refine JqG (JqK ?_);show [D.s (dF (ls.take j).flatten)]=_;rw[tA1 h]
/- What an act does not turn stays: over residual programs. -/
theorem Jla {a b:List Int} {i:Nat} {x y A B:Int} (hx:a[i]? = some x) (hy:b[i]? = some y) (ha:Lim A a) (hb:Lim B b) (hA:0≤A) (hB:0≤B) (hi:i<1000) (hAB:A*B≤1000000000000000) :
  i64.wrap (dot (a.take i) (b.take i)+i64.wrap (x*y))=dot (a.take (i+1)) (b.take (i+1)):=by
 have h1:=KO (ha.take i) (hb.take i) hA hB;have h2:((a.take i).length:Int)≤1000:=by simp;omega
 have h0:0≤A*B:=Int.mul_nonneg hA hB;have h3:=ZM (ha x (Jrg hx)) (hb y (Jrg hy));have h4:A*B*((a.take i).length:Int)≤A*B*1000:=Int.mul_le_mul_of_nonneg_left h2 h0;rw[Wd hx hy,w64 (n:=x*y) (by omega) (by omega),w64 (by omega) (by omega)]
theorem JjS {p a:List Int} {A B:Int} (hp:Lim A p) (ha:Lim B a) (hA:0≤A) (hB:0≤B) (hAB:A*B≤1000000000000000) (hl:p.length=a.length) (h9:p.length≤999):Ev L f_k3n [.s (dL p),.s (dL a)] [dI (dot p a)]:=by
 refine Jq7 (vs:=[.l (dL p),.l (dL a)]) L_k3n rfl ?_;refine JqH p.length (fun i=>[.i (dot (p.take i) (a.take i)),.i i]) (fun _=>True) rfl rfl trivial fun i hi _=>?_;refine Jqv i (dL1 p) rfl (fun h=>?_) (fun h=>?_)
 ·obtain⟨x,hx,_⟩:=sA1 (show i<p.length by omega);obtain⟨y,hy,_⟩:=sA1 (show i<a.length by omega);refine JqJ i (mA1 (f:=dI) hx) rfl rfl rfl rfl ?_;refine JqJ i (mA1 (f:=dI) hy) rfl rfl rfl rfl ?_;refine JqI (vs:=[.i (dot (p.take (i+1)) (a.take (i+1))),.i ((i+1:Nat):Int)]) ?_ ⟨h,rfl,trivial⟩;show [V.i (i64.wrap (dot (p.take i) (a.take i)+i64.wrap (x*y))),V.i (i64.wrap ((i:Int)+1))]=_;rw[wS h (by omega),Jla hx hy hp ha hA hB (by omega) hAB]
 ·refine JqG (JqK ?_);show [dI (dot (p.take i) (a.take i))]=_;rw[tA1 h,tA1 (by omega)]
structure YO (f:Frm) (v w:List Int):Prop where
 c:f.c.length=3
 d:f.d.length=2
 v3:v.length=3
 w2:w.length=2
 a : ∃ A B:Int,0≤A∧0≤B∧A*B≤1000000000000000∧Lim A f.c∧Lim A f.d∧Lim B v∧Lim B w∧-1000000000000000≤f.k∧f.k≤1000000000000000
theorem YO.sums {f:Frm} {v w:List Int} (h:YO f v w):(-3000000000000000≤dot f.c v∧dot f.c v≤3000000000000000)∧(-2000000000000000≤dot f.d w∧dot f.d w≤2000000000000000)∧-1000000000000000≤f.k∧f.k≤1000000000000000:=by
 obtain⟨A,B,hA,hB,hAB,h1,h2,h3,h4,h5⟩:=h.a;have a:=KO h1 h3 hA hB;have b:=KO h2 h4 hA hB;rw[h.c] at a;rw[h.d] at b;exact⟨by omega,by omega,h5⟩
theorem Jna {f:Frm} {v w:List Int} (h:YO f v w):Ev L f_k4c (f.cells++[.s (dL v),.s (dL w)]) [dI (atF f v w)]:=by
 obtain⟨A,B,hA,hB,hAB,h1,h2,h3,h4,h5⟩:=h.a;obtain⟨s1,s2,s3⟩:=h.sums;refine Jq7 (vs:=[.l (dL f.c),.l (dL f.d),.i f.k,.l (dL v),.l (dL w)]) L_k4c rfl ?_;refine JqC (JjS h1 h3 hA hB hAB (by rw[h.c,h.v3]) (by rw[h.c];omega)) rfl rfl rfl ?_;refine JqC (JjS h2 h4 hA hB hAB (by rw[h.d,h.w2]) (by rw[h.d];omega)) rfl rfl rfl (JqK ?_);show [dI (i64.wrap (i64.wrap (dot f.c v+dot f.d w)+f.k))]=_;rw[w64 (n:=dot f.c v+dot f.d w) (by omega) (by omega),w64 (by omega) (by omega)];rfl
theorem Yq {l:List Int}:Xb l=true↔l.length=3∧Lim 10000 l:=by
 unfold Xb;rw[Jy];exact⟨fun h=>⟨by omega,h.2⟩,fun h=>⟨by omega,h.2⟩⟩
theorem Km {l:List Int}:QL l=true↔l.length=2∧Lim 9 l:=by
 unfold QL;rw[Jy];exact⟨fun h=>⟨by omega,h.2⟩,fun h=>⟨by omega,h.2⟩⟩
theorem YO.std {f:Frm} {v w:List Int} (hf:Std 10000000 f) (hv:Xb v=true) (hw:QL w=true):YO f v w:=by
 obtain⟨v1,v2⟩:=Yq.1 hv;obtain⟨w1,w2⟩:=Km.1 hw;exact⟨hf.c,hf.d,v1,w1,10000000,10000,by omega,by omega,by omega,hf.lc,hf.ld,v2,w2.mono (by omega),by have:=hf.k;omega⟩
theorem YO.small {f:Frm} {x w:List Int} (hf:f.small=true) (hx:x.length=3) (hl:Lim 2000000000 x) (hw:QL w=true):YO f x w:=by
 obtain⟨h1,h2,h3,h4,h5⟩:=Xt hf;obtain⟨w1,w2⟩:=Km.1 hw;exact⟨h1,h2,hx,w1,2,2000000000,by omega,by omega,by omega,h3,h4,hl,w2.mono (by omega),by omega⟩
def Res.ds (r:Res):List D:=[dI r.code,.s (dL r.tells),.s (dL r.is)]
theorem Jok (h:Row→Nat→Bool) (as:List (List Jd)) (hf:QP as) {fn:FuncId} {caps:List D} (hcap:QZ (.f fn caps) = .f fn caps) (har:arT L fn=some ([some 4,none]++caps.map fun _=>none))
  (hc :∀r,Xz r→∀v:Nat,v<3→Ev L fn (r.cells++[dI v]++caps.map D.norm) [dB (h r v)]):Ev L f_k3a [.s (Jf as),.f fn caps] [.s (dBl (Vm h as))]:=by
 have hl:=hf.1;refine Jq7 (vs:=[.l (Jf as),.d (.f fn caps)]) L_k3a rfl ?_;refine JqS as.length (fun i vs=>∃ p:List Bool,vs=[.l (dBl p),.i i]∧p.length=3∧p=Vm h (as.take i)) rfl ⟨[false,false,false],rfl,rfl,rfl⟩ ?_;rintro i _ hi ⟨p,rfl,hp,hpe⟩;simp only[sC,sN];refine Jqv i (QC as) rfl (fun h'=>?_) (fun h'=>?_)
 ·obtain⟨a,ha,hm⟩:=sA1 h';have hB:Vm h (as.take (i+1))=(Jw a).foldl (fun p r=>orB p (h r)) p:=by rw[hpe];exact QY ha
  refine JqJ i (mA1 (f:=fun a=> .s (Jn a)) ha) rfl rfl rfl rfl ?_;refine JqC (VR a (hf.2 a hm)) rfl rfl rfl ?_;have hrf :∀r∈Jw a,Xz r:=X8;have hrl:=Zo a;generalize Jw a=rs at *;refine JqS rs.length (fun k vs=>∃ q:List Bool,vs=[.l (dBl q),.i k]∧q.length=3∧q=(rs.take k).foldl (fun p r=>orB p (h r)) p) rfl ⟨p,rfl,hp,rfl⟩ ?_;rintro k _ hk ⟨q,rfl,hq,hqe⟩;simp only[sC,sN];refine Jqv k (Xv rs) rfl (fun h''=>?_) (fun h''=>?_)
  ·obtain⟨r,hr,hmr⟩:=sA1 h'';have hfit:=hrf r hmr;have hC:(rs.take (k+1)).foldl (fun p r=>orB p (h r)) p=orB q (h r):=by rw[hqe];exact QY hr
   refine JqB k (rdR hr) rfl rfl rfl rfl rfl rfl ?_;have hO:(orB q (h r)).length=3:=by rw[Y1];exact hq
   refine JqH 3 (fun v=>[.l (dBl ((orB q (h r)).take v++q.drop v)),.i v]) (fun _=>True) rfl rfl trivial fun v hv _=>?_;simp only[sC,sN];refine Jqv v (show (dBl q).length=3 by rw[JfA];exact hq) rfl (fun hv3=>?_) (fun hv3=>?_)
   ·obtain⟨b,hb,_⟩:=sA1 (show v<q.length by omega);have ho:=VC (h:=h r) hb;have hcur:((orB q (h r)).take v++q.drop v)[v]? = some b:=by
     rw[JrB (by simp;omega),List.getElem?_drop];rw[show v+(v-((orB q (h r)).take v).length)=v by simp;omega];exact hb
    have nx :∀c:Bool,c=(b||h r v)→[V.l ((dBl ((orB q (h r)).take v++q.drop v)).set (v:Int).toNat (dB c)),V.i (i64.wrap ((v:Int)+1))]=[.l (dBl ((orB q (h r)).take (v+1)++q.drop (v+1))),.i ((v+1:Nat):Int)]:=by
     intro c hc';rw[←hc'] at ho;rw[wS hv3 (by omega),Jj5,Int.toNat_natCast,Jma (by omega) ho]
    refine JqB v (mA1 (f:=dB) hcur) rfl rfl rfl rfl rfl rfl ?_;refine JqZ b rfl (fun hbt=>?_) (fun hbf=>?_)
    ·refine JqB v (mA1 (f:=dB) hcur) rfl rfl rfl rfl rfl rfl ?_;exact JqI (nx true (by simp[hbt])) ⟨hv3,rfl,trivial⟩
    ·refine JqT (fn:=fn) (caps:=caps) (ds:=[dB (h r v)]) (vs:=[.b (h r v)]) rfl hcap har (hc r hfit v hv3) rfl ?_;refine JqB v (mA1 (f:=dB) hcur) rfl rfl rfl rfl rfl rfl ?_;exact JqI (nx (h r v) (by simp[hbf])) ⟨hv3,rfl,trivial⟩
   ·have hv3:v=3:=by omega
    subst hv3;rw[Jrd (by omega),List.drop_eq_nil_of_le (by omega),List.append_nil];refine JqG (JqI (vs:=[.l (dBl (orB q (h r))),.i ((k+1:Nat):Int)]) ?_ ⟨h'',orB q (h r),rfl,hO,hC.symm⟩);show [V.l (dBl (orB q (h r))),V.i (i64.wrap ((k:Int)+1))]=_;rw[wS h'' (by omega)]
  ·rw[tA1 h''] at hqe;refine JqG (JqI (vs:=[.l (dBl q),.i ((i+1:Nat):Int)]) ?_ ⟨h',q,rfl,hq,by rw[hB,hqe]⟩);show [V.l (dBl q),V.i (i64.wrap ((i:Int)+1))]=_;rw[wS h' (by omega)]
 ·refine JqG (JqK ?_);show [D.s (dBl p)]=_;rw[tA1 h'] at hpe;rw[hpe]
/- All is kept an eye on; who tells of a pot pins it; with an act more there is more: over residual programs. -/
theorem JiF (x:Int):Ev L f_k34 [dI x] [dB (nz x)]:=Jq7 (vs:=[.i x]) L_k34 rfl (JqK rfl)
theorem Jht (l:List Int) (hl:l.length=3):Ev L f_k35 [.s (dL l)] [dB (decide (l=[0,0,0]))]:=by
 refine Jq7 (vs:=[.l (dL l)]) L_k35 rfl ?_;refine JqC (Jah nz l (fn:=f_k34) (caps:=[]) (by omega) rfl rfl fun x _=>JiF x) rfl rfl rfl (JqK ?_);show [dB (!(l.any nz))]=_;obtain⟨a,b,c,rfl⟩:=Jai hl
 congr 3
 by_cases h1:a=0 <;> by_cases h2:b=0 <;> by_cases h3:c=0 <;> simp[nz,h1,h2,h3]
theorem Jfg (x:Int):Ev L f_k32 [dI x] [dB (nz x)]:=Jq7 (vs:=[.i x]) L_k32 rfl (JqK rfl)
theorem Jgx (f:Frm) (hl:Lim 1000000000 f.c) (hn:f.c.length≤2000000):Ev L f_k33 f.cells [.s (dL (Ji f.c))]:=by
 refine Jq7 (vs:=[.l (dL f.c),.l (dL f.d),.i f.k]) L_k33 rfl ?_;refine JqC (Xu f.c hn) rfl rfl rfl ?_;refine JqC (JeR nz f.c (fn:=f_k32) (caps:=[]) hn rfl rfl fun x _=>Jfg x) rfl rfl rfl ?_;simp only[sC,sN];rcases UK nz f.c with ⟨hp,ha⟩ | ⟨i,x,hp,hx,hnx,ht⟩
 ·rw[hp];refine JqM rfl (JqK ?_);show [D.s (dL f.c)]=_;rw[JhF ha]
 rw[hp];have hi:=(Jra.1 hx).1;have hs:=JgR hx hnx ht;have hx0:x≠0:=by simpa[nz] using hnx
 refine JqL ((0:Int)≤(i:Int)) rfl (fun _=>?_) (fun h=>by omega);refine JqB i (mA1 (f:=dI) hx) rfl rfl rfl rfl rfl rfl ?_;simp only[sC,sN];refine JqL (x<0) rfl (fun hneg=>?_) (fun hpos=>JqK ?_)
 ·have hpart:Ji f.c=f.c.map fun y=>0-y:=by
   unfold Ji;rw[hs,if_neg (by omega)];apply Jrv;intro y _;omega
  rw[hpart];refine JqH f.c.length (fun k=>[.l (dL ((f.c.map fun y=>0-y).take k++f.c.drop k)),.i k]) (fun _=>True) rfl rfl trivial fun k hk _=>?_;simp only[sC,sN];refine Jqv k (dL1 f.c) rfl (fun h=>?_) (fun h=>?_)
  ·obtain⟨y,hy,hm⟩:=sA1 h;have hly:=hl y hm;have hcur:((f.c.map fun y=>0-y).take k++f.c.drop k)[k]? = some y:=by
    rw[JrB (by simp;omega),List.getElem?_drop];rw[show k+(k-((f.c.map fun y=>0-y).take k).length)=k by simp;omega];exact hy
   have hny:(f.c.map fun y=>0-y)[k]? = some (0-y):=by simp[hy]
   refine JqB k (mA1 (f:=dI) hcur) rfl rfl rfl rfl rfl rfl ?_;refine JqB k (mA1 (f:=dI) hcur) rfl rfl rfl rfl rfl rfl ?_;refine JqI (vs:=[.l (dL ((f.c.map fun y=>0-y).take (k+1)++f.c.drop (k+1))),.i ((k+1:Nat):Int)]) ?_ ⟨h,rfl,trivial⟩;show [V.l ((dL ((f.c.map fun y=>0-y).take k++f.c.drop k)).set (k:Int).toNat (dI (i64.wrap (0-y)))),V.i (i64.wrap ((k:Int)+1))]=_;rw[wS h (by omega),w64 (by omega) (by omega),Uk,Int.toNat_natCast,Jma (by simp) hny]
  ·refine JqG (JqK ?_);show [D.s (dL ((f.c.map fun y=>0-y).take k++f.c.drop k))]=_;rw[Jrd (by simp;omega),List.drop_eq_nil_of_le (by omega),List.append_nil]
 ·show [D.s (dL f.c)]=_;unfold Ji;rw[hs,if_pos (by omega)]
  congr 3
  conv=>lhs;rw[←List.map_id f.c]
  apply Jrv;intro y _;show y=1*y;omega
theorem Jgy (q p:List Int) (hq:q.length≤2000000):Ev L f_k36 [.s (dL q),.q [.s (dL p)]] [dB (decide (q=p))] :=
 Jq7 (vs:=[.l (dL q),.d (.q [.s (dL p)])]) L_k36 rfl (Jq2 (vs:=[.l (dL p)]) rfl rfl (JqC (Jb8 q p hq) rfl rfl rfl (JqK rfl)))
theorem JjU (l:List (List Int)) (p:List Int) (hl:l.length≤2000000) (hq :∀q∈l,q.length≤2000000):Ev L f_k38 [.s (dLL l),.s (dL p)] [dI (ZF l p)] :=
 Jq7 (vs:=[.l (dLL l),.l (dL p)]) L_k38 rfl (JqC (JcE (fun q=>decide (q=p)) l (fn:=f_k36) (caps:=[.q [.s (dL p)]]) hl rfl rfl fun q h=>Jgy q p (hq q h)) rfl rfl rfl (JqK rfl))
theorem Jjs (a:List Jd) (ha:YS a):Ev L f_k2f ([.s (Jn a)]++([]:List D).map D.norm) [dB (!QI a)] :=
 Jq7 (vs:=[.l (Jn a)]) L_k2f rfl (JqC (JeO a ha) rfl rfl rfl (JqK rfl))
theorem Vc (as:List (List Jd)) (hf:QP as):Ev L f_k2g [.s (Jf as)] [dB (QA as)]:=by
 have hl:=hf.1;refine Jq7 (vs:=[.l (Jf as)]) L_k2g rfl ?_;refine JqC (XE as.length 1 4) rfl ?_ rfl ?_
 ·show [dI ((Jf as).length:Int),dI 1,dI 4]=_;rw[QC]
 refine JqZ (inB as.length 1 4) rfl (fun h=>?_) (fun h=>JqK ?_)
 ·have e:Ev L f_k25 [.s (Jf as),.f f_k2f []] [dB (as.any fun a=>!QI a)] :=
   YJ (g := f_k24) L_k25 rfl rfl
     (Yl (sh:= .one .s) (as:=[(.s (.v 3))]) (ar:=[none]) (k:=4) (caps:=[]) (fun a=> .s (Jn a)) (fun a=>!QI a) (fun a=>[.s (Jn a)]) (fun a=>[.l (Jn a)]) as
       L_k24 rfl hl rfl (fun _ _=>rfl) (fun _ _=>rfl) (fun _ _ _ _=>rfl) rfl fun a ha=>Jjs a (hf.2 a ha))
  refine JqC e rfl rfl rfl (JqK ?_);show [dB (!(as.any fun a=>!QI a))]=_;rw[Kq];simp[QA,h]
 ·show [dB false]=_;simp[QA,h]
set_option maxHeartbeats 2000000 in
theorem JlQ (as:List (List Jd)) (hf:QP as):Ev L f_k39 [.s (Jf as)] [.s (dLL (Jb as))]:=by
 refine Jq7 (vs:=[.l (Jf as)]) L_k39 rfl ?_;refine JqC (Vc as hf) rfl rfl rfl ?_;refine JqA (QA as) rfl (fun h=>JqK ?_) (fun hok=>?_)
 ·show [D.s []]=_;simp[Jb,h,dLL]
 have h4:=(U1 hok).2.1;have hcf:Jb as=(UN as).1:=by simp[Jb,hok]
 rw[hcf];simp only[sC,sN];refine JqH 3 (fun v=>[.l (dLL (X7.take v)),.i v]) (fun _=>True) rfl rfl trivial fun v hv _=>?_;simp only[sC,sN];refine JqW v 3 rfl (fun hv3=>?_) (fun hv3=>?_)
 ·refine JqC (Jbw v (by omega) (by omega)) rfl rfl rfl ?_;refine Jq3 (X3 _) ?_;have hp:X7[v]? = some (Ju (v:Int).toNat).c:=by
   rw[Int.toNat_natCast]
   match v,hv3 with
   | 0,_ | 1,_ | 2,_=>rfl
   | n+3,h=>omega
  refine JqR (dLL (X7.take v)) 3 (by rw[Kz];simp;omega) (by omega) rfl ?_;refine JqI (vs:=[.l (dLL (X7.take (v+1))),.i ((v+1:Nat):Int)]) ?_ ⟨hv3,rfl,trivial⟩;show [V.l (dLL (X7.take v)++[.s (dL (Ju (v:Int).toNat).c)]),V.i (i64.wrap ((v:Int)+1))]=_;rw[wS hv3 (by omega),Wl,tS1 hp]
 have hv3:v=3:=by omega
 subst hv3;refine JqG ?_;refine JqS as.length (fun i vs=>∃ b:List (List Int)×List Bool,vs=[.l (dLL b.1),.i i]∧b=UN (as.take i)) rfl ⟨(X7,[false,false,false]),rfl,rfl⟩ ?_;rintro i _ hi ⟨⟨b1,b2⟩,rfl,hb⟩;simp only[sC,sN];refine Jqv i (QC as) rfl (fun h=>?_) (fun h=>?_)
 ·obtain⟨a,ha,hm⟩:=sA1 h;have hB:UN (as.take (i+1))=XL (b1,b2) a:=by rw[hb];exact QY ha
  obtain⟨f1,f2⟩:=Jcx (as.take i);rw[←hb] at f1 f2;have f1:=f1.mono (show 3+384*(as.take i).length≤1600 by simp;omega);have hrl:=Zo a;refine JqJ i (mA1 (f:=fun a=> .s (Jn a)) ha) rfl rfl rfl rfl ?_;refine JqC (VR a (hf.2 a hm)) rfl rfl rfl ?_;have hrf :∀r∈Jw a,Xz r:=X8;have hAB:XL (b1,b2) a=(Jw a).foldl Ql (b1,b2):=rfl;generalize Jw a=rs at *;refine JqS rs.length (fun k vs=>∃ c:List (List Int)×List Bool,vs=[.l (dLL c.1),.i k]∧c=(rs.take k).foldl Ql (b1,b2)) rfl ⟨(b1,b2),rfl,rfl⟩ ?_;rintro k _ hk ⟨⟨c1,c2⟩,rfl,hc⟩;simp only[sC,sN];refine Jqv k (Xv rs) rfl (fun h'=>?_) (fun h'=>?_)
  ·obtain⟨r,hr,hmr⟩:=sA1 h';have hfit:=hrf r hmr;have hC:(rs.take (k+1)).foldl Ql (b1,b2)=Ql (c1,c2) r:=by rw[hc];exact QY hr
   obtain⟨g1,g2⟩:=f1.rows f2 (rs:=rs.take k) fun x hx=>hrf x (Jrx hx);rw[←hc] at g1 g2;have g1:=g1.mono (show 1600+6*(rs.take k).length≤2000 by simp;omega);refine JqB k (rdR hr) rfl rfl rfl rfl rfl rfl ?_;simp only[sC,sN];have hR:Ql (c1,c2) r=(r.guards.foldl Jk c1,Qn (Qn c2 r.adds) r.tells):=rfl;have hgl:=hfit.gl;refine JqS r.guards.length (fun g vs=>∃ e:List (List Int),vs=[.l (dLL e),.i g]∧e=(r.guards.take g).foldl Jk c1) rfl ⟨c1,rfl,rfl⟩ ?_;rintro g _ hg ⟨e,rfl,he⟩;simp only[sC,sN];refine Jqv g (JL r.guards) rfl (fun hg'=>?_) (fun hg'=>?_)
   ·obtain⟨f,hfg,hmf⟩:=sA1 hg';have hsf:=hfit.g f hmf;have hE:(r.guards.take (g+1)).foldl Jk c1=Jk e f:=by rw[he];exact QY hfg
    have e1:=(g1.adds (fs:=r.guards.take g) fun x hx=>hfit.g x (Jrx hx)).mono (show 2000+(r.guards.take g).length≤2010 by simp;omega);rw[←he] at e1;have nx :∀(x:List (List Int)),x=Jk e f→[V.l (dLL x),V.i (i64.wrap ((g:Int)+1))]=[.l (dLL (Jk e f)),.i ((g+1:Nat):Int)]:=by
     intro x hx;rw[hx,wS hg' (by omega)]
    refine JqJ g (mA1 (f:=Frm.g) hfg) rfl rfl rfl rfl ?_;refine JqC (Jgx f (hsf.lc.mono (by omega)) (by rw[hsf.c];omega)) rfl rfl rfl ?_;simp only[sC,sN];have el:=e1.len;have hp3:(Ji f.c).length=3:=by rw[Uq];exact hsf.c
    have hAP:Jk e f=if ZF e (Ji f.c)<0∧Ji f.c≠[0,0,0] then e++[Ji f.c] else e:=rfl;generalize Ji f.c=pt at *;refine JqC (Jht pt hp3) rfl rfl rfl ?_;refine JqA (decide (pt=[0,0,0])) rfl (fun hz=>?_) (fun hz=>?_)
    ·refine JqC (JjU e pt (by omega) (fun q hq=>by rw[(e1.each q hq).1];omega)) rfl rfl rfl ?_;generalize ZF e pt=ha at *;refine JqL (ha<0) rfl (fun h0=>?_) (fun h0=>?_)
     ·refine Jq3 (X3 _) ?_;refine JqR (dLL e) 3000 (by rw[Kz];omega) (by omega) rfl ?_;refine JqI (vs:=[.l (dLL (Jk e f)),.i ((g+1:Nat):Int)]) ?_ ⟨hg',Jk e f,rfl,hE.symm⟩;show [V.l (dLL e++[.s (dL pt)]),V.i (i64.wrap ((g:Int)+1))]=_;rw[Wl];refine nx _ ?_;rw[hAP,if_pos ⟨h0,by simpa using hz⟩]
     ·refine JqI (nx e ?_) ⟨hg',Jk e f,rfl,hE.symm⟩;rw[hAP,if_neg];intro ⟨h,_⟩;exact h0 h
    ·refine JqI (nx e ?_) ⟨hg',Jk e f,rfl,hE.symm⟩;rw[hAP,if_neg];intro ⟨_,h⟩;exact h (by simpa using hz)
   ·refine JqG ?_;rw[tA1 hg'] at he;refine JqI (vs:=[.l (dLL e),.i ((k+1:Nat):Int)]) ?_ ⟨h',(e,(Ql (c1,c2) r).2),rfl,by rw[hC,he];rfl⟩;show [V.l (dLL e),V.i (i64.wrap ((k:Int)+1))]=_;rw[wS h' (by omega)]
  ·refine JqG ?_;rw[tA1 h'] at hc;refine JqI (vs:=[.l (dLL c1),.i ((i+1:Nat):Int)]) ?_ ⟨h,(c1,c2),rfl,by rw[hB,hAB,hc]⟩;show [V.l (dLL c1),V.i (i64.wrap ((i:Int)+1))]=_;rw[wS h (by omega)]
 ·refine JqG (JqK ?_);show [D.s (dLL b1)]=_;rw[tA1 h] at hb;rw[←hb]
def Jmz (as:List (List Jd)):Prop:=as.length≤5∧∀a∈as,JdV a
theorem Jmz.fit {as:List (List Jd)} (h:Jmz as):QP as:=⟨by have:=h.1;omega,fun a ha=>(h.2 a ha).fit⟩
theorem JiM (f:Frm) (hf:f.c.length=3) (v:Nat) (hv:v<3):Ev L f_k3d (f.cells++[D.q [dI v]].map D.norm) [dB (decide (f.c.getD v 0≠0))]:=by
 refine Jq7 (vs:=[.l (dL f.c),.l (dL f.d),.i f.k,.d (.q [dI v])]) L_k3d rfl ?_;refine Jq2 (vs:=[.i v]) rfl rfl ?_;refine JqJ v (mA1 (f:=dI) (Je9 (by omega))) rfl rfl rfl rfl (JqK ?_);show [dB (!(decide (f.c.getD v 0=0)))]=_;simp
theorem Jm0 (r:Row) (hr:Xz r) (v:Nat) (hv:v<3):Ev L f_k3e (r.cells++[dI v]++([]:List D).map D.norm) [dB (YV r v)]:=by
 refine Jq7 (vs:=[.l (dF r.guards),.l (dF r.adds),.l (dF r.tells),.b r.stop,.i v]) L_k3e rfl ?_;have ha:=hr.al;have ht:=hr.tl;refine JqC (JkP [r.adds,r.tells] (by simp) (by simp;omega)) rfl rfl rfl ?_;have hfl:[r.adds,r.tells].flatten=r.adds++r.tells:=by simp
 rw[hfl];have h3 :∀f∈r.adds++r.tells,f.c.length=3:=by
  intro f hf;rcases Jre.1 hf with hf | hf
  ·exact(hr.a f hf).c
  ·exact(hr.t f hf).c
 have hlen:(r.adds++r.tells).length≤2000000:=by simp;omega
 unfold YV;generalize r.adds++r.tells=all at *;exact JqC (Jar (fun f=>decide (f.c.getD v 0≠0)) all (fn:=f_k3d) (caps:=[.q [dI v]]) hlen rfl rfl fun f hf=>JiM f (h3 f hf) v hv) rfl rfl rfl (JqK rfl)
theorem JnK (as:List (List Jd)) (hf:QP as):Ev L f_k3f [.s (Jf as)] [.s (dBl (Jh as))]:=by
 refine Jq7 (vs:=[.l (Jf as)]) L_k3f rfl ?_;refine JqC (Vc as hf) rfl rfl rfl ?_;refine JqA (QA as) rfl (fun h=>JqK ?_) (fun h=>?_)
 ·show [D.s []]=_;simp[Jh,h,dBl]
 ·refine JqC (Jok YV as hf (fn:=f_k3e) (caps:=[]) rfl rfl fun r hr v hv=>Jm0 r hr v hv) rfl rfl rfl (JqK ?_);show [D.s (dBl (Vm YV as))]=_;rw[Jce h]
/- There is one way,and it is the act; what an act does not read turns no answer; with an act more there is more: over residual programs. -/
theorem Jl8 {fs:List Frm} {v w:List Int} (hl:fs.length≤1000) (hf :∀f∈fs,YO f v w):Ev L f_k4i [.s (dF fs),.s (dL v),.s (dL w)] [.s (dL (atL fs v w))]:=by
 refine Jq7 (vs:=[.l (dF fs),.l (dL v),.l (dL w)]) L_k4i rfl ?_;refine JqH fs.length (fun i=>[.l (dL (atL (fs.take i) v w)),.i i]) (fun _=>True) rfl rfl trivial fun i hi _=>?_;refine Jqv i (JL fs) rfl (fun h=>?_) (fun h=>?_)
 ·obtain⟨x,hx,hm⟩:=sA1 h;refine JqJ i (mA1 (f:=Frm.g) hx) rfl rfl rfl rfl ?_;refine JqC (Jna (hf x hm)) rfl rfl rfl ?_;refine JqR (dL (atL (fs.take i) v w)) 1000 (by rw[dL1];simp[atL];omega) (by omega) rfl ?_;refine JqI (vs:=[.l (dL (atL (fs.take (i+1)) v w)),.i ((i+1:Nat):Int)]) ?_ ⟨h,rfl,trivial⟩;show [V.l (dL (atL (fs.take i) v w)++[dI (atF x v w)]),V.i (i64.wrap ((i:Int)+1))]=_;rw[wS h (by omega),UT,tS1 hx];simp[atL]
 ·refine JqG (JqK ?_);rw[tA1 h];rfl
theorem Jnf {a b:List Int} (h:b.length=a.length):Jbr a b 1=List.zipWith (· + ·) a b:=by
 rw[Jf0 h];unfold JM
 congr 1
 funext x y
 omega
theorem JjN {a b:List Int} {M:Int} (ha:Lim M a) (hb:Lim M b) (hM:M≤4000000000000000000) (hl:b.length=a.length) (h9:a.length≤1000):Ev L f_k4b [.s (dL a),.s (dL b)] [.s (dL (List.zipWith (· + ·) a b))]:=by
 refine Jq7 (vs:=[.l (dL a),.l (dL b)]) L_k4b rfl ?_;refine JqC (Xu a (by omega)) rfl rfl rfl ?_;refine JqH b.length (fun i=>[.l (dL (JM a (b.take i) 1++a.drop i)),.i i]) (fun _=>True) rfl (by simp[JM,den,Jp,V.int]) trivial fun i hi _=>?_;simp only[sC,sN];refine Jqv i (dL1 b) rfl (fun h=>?_) (fun h=>?_)
 ·obtain⟨x,hx,hmx⟩:=sA1 (show i<a.length by omega);obtain⟨y,hy,hmy⟩:=sA1 h;obtain⟨s1,s2⟩:=Jag (n:=1) (by omega) hx hy;have hxl:=ha x hmx;have hyl:=hb y hmy;refine JqJ i (mA1 (f:=dI) hy) rfl rfl rfl rfl ?_;refine JqB i (mA1 (f:=dI) s1) rfl rfl rfl rfl rfl rfl ?_;refine JqB i (mA1 (f:=dI) s1) rfl rfl rfl rfl rfl rfl ?_;refine JqI (vs:=[.l (dL (JM a (b.take (i+1)) 1++a.drop (i+1))),.i ((i+1:Nat):Int)]) ?_ ⟨h,rfl,trivial⟩;show [V.l ((dL (JM a (b.take i) 1++a.drop i)).set (i:Int).toNat (dI (i64.wrap (x+y)))),V.i (i64.wrap ((i:Int)+1))]=_;rw[wS h (by omega),w64 (by omega) (by omega),Uk,Int.toNat_natCast,show x+y=x+1*y by omega,s2]
 ·refine JqG (JqK ?_);show [D.s (dL (JM a (b.take i) 1++a.drop i))]=_;rw[tA1 h,show i=b.length by omega,←Jnf hl];rfl
theorem Jiz {f:Frm} {v w:List Int} (h:YO f v w) : -6000000000000000≤atF f v w∧atF f v w≤6000000000000000:=by
 obtain⟨s1,s2,s3⟩:=h.sums;unfold atF;omega
theorem JjJ {fs:List Frm} {v w:List Int} (h :∀f∈fs,YO f v w):Lim 6000000000000000 (atL fs v w):=by
 intro x hx;simp only[atL,List.mem_map] at hx;obtain⟨f,hf,rfl⟩:=hx;exact Jiz (h f hf)
theorem Jmm (l:List Int) (hl:l.length≤2000000):Ev L f_k1l [.s (dL l)] [dB (QL l)] :=
 Jq7 (vs:=[.l (dL l)]) L_k1l rfl (JqC (Q4 l 2 9 hl (by omega) (by omega)) rfl rfl rfl (JqK rfl))
end Go.Proofs.YtgpjnnkmmplicaaGreatDoor
