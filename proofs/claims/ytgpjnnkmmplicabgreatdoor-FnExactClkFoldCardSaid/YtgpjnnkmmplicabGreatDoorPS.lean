import Derived.Test.YtgpjnnkmmplicabGreatDoorPN
import Derived.Test.YtgpjnnkmmplicabGreatDoorPI
import Derived.Test.YtgpjnnkmmplicabGreatDoorTd
set_option linter.unusedVariables false
set_option linter.unusedSimpArgs false
/- What the program's ways through an act come to. -/
namespace Go.Proofs.YtgpjnnkmmplicabGreatDoor
open Go Go.Tm
open Go.IntKind (i64)
theorem Jf7 (f:Frm) (hf:Frm.fit f):Ev L f_k2x f.cells [dB (!f.ok)] :=
 JrA (vs:=[.l (dL f.c),.l (dL f.d),.i f.k]) L_k2x rfl (Jrw (Zj f hf) rfl rfl rfl (JqZ rfl))
theorem JeA (p:Frm→Bool) (l:List Frm) {fn:FuncId} {caps:List D} (hlen:l.length≤2000000) (hcap:QY (.f fn caps) = .f fn caps) (har:arT L fn=some ([some 3]++caps.map fun _=>none))
  (hc :∀x∈l,Ev L fn (x.cells++caps.map D.norm) [dB (p x)]):Ev L f_k2w [.s (dF l),.f fn caps] [dB (l.any p)] :=
 X5 (g := f_k2v) L_k2w rfl hcap
   (YM (sh:= .g [.s,.s,.i .i64]) (as:=[(.s (.v 3)),(.s (.v 4)),(.vi .i64 (.v 5))]) (ar:=[some 3]) (k:=6) Frm.g p Frm.cells (fun x=>[.l (dL x.c),.l (dL x.d),.i x.k]) l
     L_k2v rfl hlen hcap (fun _ _=>rfl) (fun _ _=>rfl) (fun _ _ _ _=>rfl) har hc)
def Jf3 (f:Frm) (pots:List Frm) (i:Nat):Frm:=(List.zip (pots.take i) (f.c.take i)).foldl (fun x q=>JI x q.1 q.2) Frm.zero
theorem JeB {f:Frm} {pots:List Frm} {i:Nat} {p:Frm} {n:Int} (hp:pots[i]? = some p) (hn:f.c[i]? = some n):Jf3 f pots (i+1)=JI (Jf3 f pots i) p n:=by
 have h1:=(JrF.1 hp).1;have h2:=(JrF.1 hn).1;simp only[Jf3];rw[tS1 hp,tS1 hn,List.zip_append (by simp;omega),List.foldl_append];rfl
theorem JnF {f:Frm} {pots:List Frm} {M:Int} (hf:f.small=true) (hp :∀p∈pots,Std M p) (hl:pots.length=3) (h0:0≤M) (i:Nat) (hi:i≤3):Std (2*M*i) (Jf3 f pots i):=by
 obtain⟨h1,h2,h3,h4,h5⟩:=Q7 hf
 induction i with
 | zero=>exact Xg.mono (by omega)
 | succ i ih =>
  have ih:=ih (by omega);obtain⟨p,hp1,hp2⟩:=sA1 (show i<pots.length by omega);obtain⟨n,hn1,hn2⟩:=sA1 (show i<f.c.length by omega);rw[JeB hp1 hn1];have:=Qs ih (hp _ hp2) (h3 _ hn2);refine this.mono ?_
  push_cast
  rw[Int.mul_add];omega
theorem Jl9 {f:Frm} {pots:List Frm} {M:Int} (hf:f.small=true) (hp :∀p∈pots,Std M p) (hl:pots.length=3) :
  Jo f pots=⟨(Jf3 f pots 3).c,JbT (Jf3 f pots 3).d f.d 1,(Jf3 f pots 3).k+1*f.k⟩:=by
 obtain⟨h1,h2,_⟩:=Q7 hf
 match pots,hl with
 | [⟨c,d,k⟩,⟨c',d',k'⟩,⟨c'',d'',k''⟩],_ =>
  have s1:=hp ⟨c,d,k⟩ (by simp);have s2:=hp ⟨c',d',k'⟩ (by simp);have s3:=hp ⟨c'',d'',k''⟩ (by simp);obtain⟨fc,fd,fk⟩:=f;obtain⟨x,y,z,rfl⟩:=JaV h1;obtain⟨u,v,rfl⟩:=JgS h2;obtain⟨a1,a2,a3,rfl⟩:=JaV s1.c;obtain⟨b1,b2,rfl⟩:=JgS s1.d;obtain⟨a1',a2',a3',rfl⟩:=JaV s2.c;obtain⟨b1',b2',rfl⟩:=JgS s2.d;obtain⟨a1'',a2'',a3'',rfl⟩:=JaV s3.c;obtain⟨b1'',b2'',rfl⟩:=JgS s3.d;simp[Jo,Jf3,JI,JJ,JbT,Frm.zero];omega
theorem Jm3 {f:Frm} {pots:List Frm} {M:Int} (hf:f.small=true) (hl:pots.length=3) (hp :∀p∈pots,Std M p) (h0:0≤M) (hM:M≤1000000) :
  Ev L f_k30 (f.cells++[.s (dF pots)]) (Jo f pots).cells:=by
 obtain⟨f1,f2,f3,f4,f5⟩:=Q7 hf;have hfs:=Jet hf;refine JrA (vs:=[.l (dL f.c),.l (dL f.d),.i f.k,.l (dF pots)]) L_k30 rfl ?_;have e:=Zj f hfs.fit;rw[hfs.okF (by omega)] at e;refine Jrw e rfl rfl rfl (Jra rfl ?_);refine Jrx (¬(pots.length:Int)=3) ?_ (fun h=>by omega) (fun _=>?_)
 ·show (!(decide (((dF pots).length:Int)=3)))=_;rw[JS];simp
 have hany:pots.any (fun p=>!p.ok)=false:=by
  rw[List.any_eq_false];intro p hpm;rw[(hp p hpm).okF (by omega)];simp
 have e2:=JeA (fun p=>!p.ok) pots (fn:=f_k2x) (caps:=[]) (by omega) rfl rfl fun p hpm=>by
  rw[List.map_nil,List.append_nil];exact Jf7 p (hp p hpm).fit
 rw[hany] at e2;refine Jrw e2 rfl rfl rfl (Jra rfl ?_);refine Jrw WH rfl rfl rfl ?_;simp only[sC,sN];have hstd:=JnF hf hp hl h0;refine Jrf 3 (fun i vs=>∃ a:Frm,a=Jf3 f pots i∧vs=[.l (dL a.c),.l (dL a.d),.i i,.i a.k]) rfl ⟨Frm.zero,rfl,rfl⟩ ?_;rintro i _ hi ⟨a,ha,rfl⟩;have hs:=hstd i hi;rw[←ha] at hs;simp only[sC,sN];refine Jru i (JS pots) rfl (fun h=>?_) (fun h=>?_)
 ·obtain⟨p,hp1,hp2⟩:=sA1 h;obtain⟨n,hn1,hn2⟩:=sA1 (show i<f.c.length by omega);refine Jrd i (mA1 (f:=Frm.g) hp1) rfl rfl rfl rfl ?_;refine Jrd i (mA1 (f:=dI) hn1) rfl rfl rfl rfl ?_;have hb:2*M*(i:Int)≤2*M*3:=Int.mul_le_mul_of_nonneg_left (by omega) (by omega);have hn:=f3 n hn2;refine Jrw (Jb6 (M:=6*M) (hs.mono (by omega)) ((hp p hp2).mono (by omega)) (by omega) (n:=n) (by omega)) rfl rfl rfl ?_;have hA:=JeB hp1 hn1;rw[←ha] at hA;refine Jrq (vs:=[.l (dL (JI a p n).c),.l (dL (JI a p n).d),.i ((i+1:Nat):Int),.i (JI a p n).k]) ?_ ⟨by omega,JI a p n,hA.symm,rfl⟩;show [V.l (dL (JI a p n).c),.l (dL (JI a p n).d),.i (i64.wrap ((i:Int)+1)),.i (JI a p n).k]=_;rw[wS h (by omega)]
 ·refine Jrg ?_;have hi3:i=3:=by omega
  subst hi3;have e3:=JmO (a:=a) (b:=⟨[],f.d,f.k⟩) (n:=1) (M:=6*M+20) (hs.lc.mono (by omega)) (hs.ld.mono (by omega)) (by have:=hs.k;omega) (by intro x hx;simp at hx) (hfs.ld.mono (by omega)) (by have:=hfs.k;show -(6*M+20)≤f.k∧f.k≤6*M+20;omega)
   (by simp) (by show f.d.length≤a.d.length;rw[hs.d];omega) (by rw[hs.c];omega) (by rw[hs.d];omega) (by omega) (by omega)
  refine Jrw e3 rfl rfl rfl ?_;simp only[sC,sN];have hin:=Jl9 hf hp hl;rw[←ha] at hin;have hic:=UC hf hl hp h0;rw[JmY];have e4:=Wj hic (by omega);rw[hin] at e4 ⊢;exact Jrw e4 rfl rfl rfl (JqZ rfl)
theorem Jc7 (l:List Row) (r:Row):JV l++[r.g]=JV (l++[r]):=by simp[JV]
theorem Jfy {l:List Frm} {M:Int} (h :∀f∈l,Std M f) :∀f∈l,Frm.fit f:=fun f hf=>(h f hf).fit
set_option maxHeartbeats 2000000 in
theorem JoF {act:List Jc} (hact:Qi act) :∀(n:Nat) (at_:Int) (p g t:List Frm) (rows:List Row) (j:Nat),0≤at_→at_≤20→act.length-at_.toNat=n→(j:Int)≤at_→j≤6 →
  p.length=3→(∀f∈p,Std (Bd j) f)→g.length≤j→(∀f∈g,Std 10000000 f)→t.length≤j→(∀f∈t,Std 10000000 f)→rows.length+(walk (act.drop at_.toNat) p g t).length≤1000 →
  Ev L f_k33 [.s (Ji act),.s (JV rows),dI at_,.s (dF g),.s (dF p),.s (dF t)] [.s (Ji act),.s (JV (rows++walk (act.drop at_.toNat) p g t))]:=by
 intro n
 induction n using Nat.strongRecOn with
 | _ n ih =>
  intro at_ p g t rows j a0 a20 hn hj hj6 hp sp hg sg ht st hlen;have hal:=hact.len;refine JrA (vs:=[.l (Ji act),.l (JV rows),.i at_,.l (dF g),.l (dF p),.l (dF t)]) L_k33 rfl ?_;refine Jrr (fun m vs=>∃ (i:Int) (p' g' t':List Frm) (rs:List Row) (j':Nat),vs=[.l (JV rs),.i i,.l (dF g'),.l (dF p'),.l (dF t'),.l (Ji act)]∧at_≤i∧i≤20∧m=act.length-i.toNat∧(j':Int)≤i∧j≤j'∧j'≤6∧p'.length=3∧(∀f∈p',Std (Bd j') f)∧g'.length≤j'∧(∀f∈g',Std 10000000 f)∧t'.length≤j'∧(∀f∈t',Std 10000000 f) ∧
   rs++walk (act.drop i.toNat) p' g' t'=rows++walk (act.drop at_.toNat) p g t) rfl (act.length-at_.toNat) ⟨at_,p,g,t,rows,j,rfl,by omega,a20,rfl,hj,by omega,hj6,hp,sp,hg,sg,ht,st,rfl⟩ ?_
  rintro m _ ⟨i,p',g',t',rs,j',rfl,ai,i20,hm,hj',hjj,hj6',hp',sp',hg',sg',ht',st',hw⟩;simp only[sC,sN];have hlen':rs.length+(walk (act.drop i.toNat) p' g' t').length≤1000:=by
   rw[←JrK,hw,JrK];exact hlen
  rw[←hw];clear hw hlen;have hB:=Jht hj6';have hB0:=YI j';have fg:=Jfy sg';have fp:=Jfy sp';have ft:=Jfy st';refine Jrx (i<((Ji act).length:Int)) rfl (fun hi=>?_) (fun hi=>?_)
  ·rw[JU] at hi;obtain⟨l,hl,hd⟩:=Vm (a:=act) (i:=i) (by omega) hi;have hok:=hact.ok l (JrL hl);have hdr:=Ya hl;have hs1:(i+1).toNat=i.toNat+1:=by omega
   refine Jq9 (ds:=Ji act) i rfl rfl rfl (by omega) hd rfl ?_;simp only[sC,sN];refine Jrx (l.kind=4) rfl (fun h4=>?_) (fun h4=>?_)
   ·refine Jrw (Yh g' (by omega) fg) rfl rfl rfl ?_;refine Jrk (JV rs) 1000 (by rw[X3];omega) (by omega) rfl ?_;refine Jrg (JqZ ?_);show [D.s (Ji act),D.s (JV rs++[Row.g ⟨g',[],[],true⟩])]=_;rw[Jc7,hdr,walk,if_pos h4]
   have hsm:=Jix hok h4;have hin:=UC hsm hp' sp' hB0;have hin7:Std 10000000 (Jo l.f p'):=hin.mono (by omega);refine Jrw (Jm3 hsm hp' sp' hB0 (by omega)) rfl rfl rfl ?_;simp only[sC,sN];have hj5:j'<6:=by omega
   refine Jrx (l.kind=1) rfl (fun h1=>?_) (fun h1=>?_)
   ·have hsk:=VG hok h1;have hwk:walk (act.drop i.toNat) p' g' t'=walk (act.drop (i+1).toNat) p' (g'++[Jo l.f p']) t'++walk (act.drop (i+l.skip+1).toNat) p' (g'++[Qu (Jo l.f p')]) t':=by
     rw[hdr,walk,if_neg h4,if_pos h1,List.drop_drop,hs1,show i.toNat+1+l.skip.toNat=(i+l.skip+1).toNat by omega]
    have hmin:Std 10000000 (Qu (Jo l.f p')):=(Wq hin).mono (by omega);have spB :∀f∈p',Std (Bd (j'+1)) f:=fun f hf=>(sp' f hf).mono (Z1 (by omega));rw[hwk,JrK] at hlen';rw[hwk];have hns:=Qs Xg hin (n:=-1) (N:=1) (by omega);generalize hF:Jo l.f p'=F at *;refine Jrw (Yh g' (by omega) fg) rfl rfl rfl ?_;refine Jrk (dF g') 1000 (by rw[JS];omega) (by omega) rfl ?_;refine Jrw (Yh p' (by omega) fp) rfl rfl rfl ?_;refine Jrw (Yh t' (by omega) ft) rfl rfl rfl ?_;simp only[sC,sN];have e1:=ih (act.length-(i+1).toNat) (by omega) (i+1) p' (g'++[F]) t' rs (j'+1) (by omega) (by omega) rfl (by omega) (by omega) hp' spB (by simp;omega) (KB sg' hin7) (by omega) st' (by omega);refine Jrw e1 rfl ?_ rfl ?_
    ·show [D.s (Ji act),.s (JV rs),dI (i64.wrap (i+1)),.s (dF g'++[F.g]),.s (dF p'),.s (dF t')]=_;rw[QM,w64 (by omega) (by omega)]
    simp only[sC,sN];refine Jrw (Jep hin7 (by omega) (n:=-1) (by omega) (by omega)) rfl rfl rfl ?_;refine Jrw (Yh g' (by omega) fg) rfl rfl rfl ?_;refine Jrk (dF g') 1000 (by rw[JS];omega) (by omega) rfl ?_;simp only[sC,sN];refine Jrq (vs:=[.l (JV (rs++walk (act.drop (i+1).toNat) p' (g'++[F]) t')),.i (i+l.skip+1),.l (dF (g'++[Qu F])),.l (dF p'),.l (dF t'),.l (Ji act)]) ?_
     ⟨act.length-(i+l.skip+1).toNat,by omega,i+l.skip+1,p',g'++[Qu F],t',_,j'+1,rfl,by omega,by omega,rfl,by omega,by omega,by omega,hp',spB,by simp;omega,KB sg' hmin,by omega,st',?_⟩
    ·have hk:=hns.k;show [V.l (JV (rs++walk (act.drop (i+1).toNat) p' (g'++[F]) t')),V.i (i64.wrap (i64.wrap (i+l.skip)+1)),V.l (dF g'++[Frm.g ⟨(JI Frm.zero F (-1)).c,(JI Frm.zero F (-1)).d,i64.wrap ((JI Frm.zero F (-1)).k-1)⟩]),V.l (dF p'),V.l (dF t'),V.l (Ji act)]=_;rw[QM,w64 (n:=i+l.skip) (by omega) (by omega),w64 (n:=i+l.skip+1) (by omega) (by omega),w64 (n:=(JI Frm.zero F (-1)).k-1) (by omega) (by omega)];rfl
    ·rw[List.append_assoc]
   refine Jrx (l.kind=2) rfl (fun h2=>?_) (fun h2=>?_)
   ·have hpt:=JcV hok h2;have hlt:l.pot.toNat<p'.length:=by omega
    obtain⟨hm1,hm2⟩:=Jh3 hlt;have hdg:(dF p')[l.pot.toNat]? = some (p'.getD l.pot.toNat Frm.none).g:=mA1 (f:=Frm.g) hm2;have hwk:walk (act.drop i.toNat) p' g' t'=walk (act.drop (i+1).toNat) (p'.set l.pot.toNat (JI (p'.getD l.pot.toNat Frm.none) (Jo l.f p') 1)) g' t':=by
     rw[hdr,walk,if_neg h4,if_neg h1,if_pos h2,hs1]
    rw[hwk];have hsum:Std (Bd (j'+1)) (JI (p'.getD l.pot.toNat Frm.none) (Jo l.f p') 1):=(Qs (sp' _ hm1) hin (n:=1) (N:=1) (by omega)).mono (by simp only[Bd];omega);have hsp1:=sp' _ hm1;generalize p'.getD l.pot.toNat Frm.none=q at *;generalize Jo l.f p'=F at *;refine Jrw (Yh p' (by omega) fp) rfl rfl rfl ?_;refine Jq7 (0≤l.pot) rfl hpt.1 ?_;refine Jq7 (l.pot<((dF p').length:Int)) rfl (by rw[JS];omega) ?_;refine Jq9 (ds:=dF p') l.pot rfl rfl rfl hpt.1 hdg rfl ?_;simp only[sC,sN];refine Jrw (Jkb (M:=5000000) (hsp1.mono (by omega)) (hin.mono (by omega)) (by omega) (by omega)) rfl rfl rfl ?_;refine Jq7 (0≤l.pot) rfl hpt.1 ?_;refine Jq7 (l.pot<((dF p').length:Int)) rfl (by rw[JS];omega) ?_;refine Jq9 (ds:=dF p') l.pot rfl rfl rfl hpt.1 hdg rfl ?_;simp only[sC,sN];refine Jrq (vs:=[.l (JV rs),.i (i+1),.l (dF g'),.l (dF (p'.set l.pot.toNat (JI q F 1))),.l (dF t'),.l (Ji act)]) ?_
     ⟨act.length-(i+1).toNat,by omega,i+1,p'.set l.pot.toNat (JI q F 1),g',t',rs,j'+1,rfl,by omega,by omega,rfl,by omega,by omega,by omega,by simp[hp'],?_,by omega,sg',by omega,st',rfl⟩
    ·show [V.l (JV rs),V.i (i64.wrap (i+1)),V.l (dF g'),V.l ((dF p').set l.pot.toNat (JI q F 1).g),V.l (dF t'),V.l (Ji act)]=_;rw[w64 (by omega) (by omega)];simp only[dF,List.map_set]
    ·intro f hf;rcases Jr3 hf with hf | hf
     ·exact(sp' f hf).mono (Z1 (by omega))
     ·subst hf;exact hsum
   ·have h3:l.kind=3:=by
     have:=hok;unfold Jc.ok at this;rw[if_neg h1,if_neg h2] at this;split at this
     ·assumption
     ·simp[h4] at this
    have hwk:walk (act.drop i.toNat) p' g' t'=walk (act.drop (i+1).toNat) p' g' (t'++[Jo l.f p']):=by
     rw[hdr,walk,if_neg h4,if_neg h1,if_neg h2,hs1]
    rw[hwk];generalize Jo l.f p'=F at *;refine Jrx (l.kind=3) rfl (fun _=>?_) (fun h=>absurd h3 h);refine Jrw (Yh t' (by omega) ft) rfl rfl rfl ?_;refine Jrk (dF t') 1000 (by rw[JS];omega) (by omega) rfl ?_;simp only[sC,sN];refine Jrq (vs:=[.l (JV rs),.i (i+1),.l (dF g'),.l (dF p'),.l (dF (t'++[F])),.l (Ji act)]) ?_
     ⟨act.length-(i+1).toNat,by omega,i+1,p',g',t'++[F],rs,j'+1,rfl,by omega,by omega,rfl,by omega,by omega,by omega,hp',fun f hf=>(sp' f hf).mono (Z1 (by omega)),by omega,sg',by simp;omega,KB st' hin7,rfl⟩
    show [V.l (JV rs),V.i (i64.wrap (i+1)),V.l (dF g'),V.l (dF p'),V.l (dF t'++[F.g]),V.l (Ji act)]=_;rw[QM,w64 (by omega) (by omega)]
  ·rw[JU] at hi;have hwk:walk (act.drop i.toNat) p' g' t'=[YL p' g' t']:=by rw[List.drop_eq_nil_of_le (by omega),walk]
   rw[hwk];rw[hwk] at hlen';refine Jrg ?_;refine Jrw (Yh g' (by omega) fg) rfl rfl rfl ?_;refine Jrw (Yh t' (by omega) ft) rfl rfl rfl ?_;simp only[sC,sN];refine Jq0 3 (fun v=>[.l (dF ((Zt p').take v)),.i v]) (fun _=>True) rfl rfl trivial fun v hv _=>?_;simp only[sC,sN];refine Jru v (JS p') rfl (fun h=>?_) (fun h=>?_)
   ·obtain⟨x,hx,hmx⟩:=sA1 h;have hsx:=sp' x hmx;refine Jrd v (mA1 (f:=Frm.g) hx) rfl rfl rfl rfl ?_;refine Jrw (Jf4 v (by omega) (by omega)) rfl rfl rfl ?_;refine Jrw (Jep (M:=10000000) (QW.mono (by omega)) (by omega) (n:=-1) (by omega) (by omega)) rfl rfl rfl ?_;simp only[sC,sN];have hps:=Qs Xg (QW (v:=(v:Int).toNat)) (n:=-1) (N:=1) (by omega);refine Jrw (Jkb (M:=5000000) (hsx.mono (by omega)) (hps.mono (by omega)) (by omega) (by omega)) rfl rfl rfl ?_;rw[Jdt hsx QW];refine Jri (Yp _) (Jri (Yp _) ?_);have hn:(Zt p')[v]? = some (JI x (JA (v:Int).toNat) (-1)):=by
     have e:p'.getD v Frm.none=x:=by rw[JrH,hx];rfl
     subst e;rw[Int.toNat_natCast]
     match v,(show v<3 by omega) with
     | 0,_=>rfl
     | 1,_=>rfl
     | 2,_=>rfl
     | n+3,h=>omega
    refine Jrk (dF ((Zt p').take v)) 1000 (by rw[JS];simp[Zt];omega) (by omega) rfl ?_;simp only[sC,sN];refine Jrq (vs:=[.l (dF ((Zt p').take (v+1))),.i ((v+1:Nat):Int)]) ?_ ⟨by omega,rfl,trivial⟩;show [V.l (dF ((Zt p').take v)++[(JI x (JA (v:Int).toNat) (-1)).g]),V.i (i64.wrap ((v:Int)+1))]=_;rw[QM,tS1 hn,wS' (by omega)]
   ·have hv3:v=3:=by omega
    subst hv3;refine Jrg ?_;refine Jrk (JV rs) 1000 (by rw[X3];omega) (by omega) rfl ?_;refine JqZ ?_;show [D.s (Ji act),D.s (JV rs++[(YL p' g' t').g])]=_;rw[Jc7]
theorem JcA (act:List Jc) (hf:Ym act):Ev L f_k34 [.s (Ji act)] [.s (JV (Jz act))]:=by
 refine JrA (vs:=[.l (Ji act)]) L_k34 rfl ?_;refine Jrw (Ja1 act hf) rfl rfl rfl ?_;refine Jrm (Qh act) rfl (fun h=>JqZ ?_) (fun h=>?_)
 ·show [D.s []]=_;simp[Jz,h,JV]
 have hpp :∀f∈[JA 0,JA 1,JA 2],Std (Bd 0) f:=by
  intro f hf';simp at hf';rcases hf' with rfl | rfl | rfl <;> exact QW
 refine Jq0 3 (fun v=>[.l (dF ([JA 0,JA 1,JA 2].take v)),.i v]) (fun _=>True) rfl rfl trivial fun v hv _=>?_;refine Jrh v 3 rfl (fun h3=>?_) (fun h3=>?_)
 ·refine Jrw (Jf4 v (by omega) (by omega)) rfl rfl rfl ?_;refine Jri (Yp _) (Jri (Yp _) ?_);have hn:[JA 0,JA 1,JA 2][v]? = some (JA (v:Int).toNat):=by
   rw[Int.toNat_natCast]
   match v,h3 with
   | 0,_ | 1,_ | 2,_=>rfl
   | n+3,h=>omega
  refine Jrk (dF ([JA 0,JA 1,JA 2].take v)) 1000 (by rw[JS];simp;omega) (by omega) rfl ?_;refine Jrq (vs:=[.l (dF ([JA 0,JA 1,JA 2].take (v+1))),.i ((v+1:Nat):Int)]) ?_ ⟨h3,rfl,trivial⟩;show [V.l (dF ([JA 0,JA 1,JA 2].take v)++[(JA (v:Int).toNat).g]),V.i (i64.wrap ((v:Int)+1))]=_;rw[QM,tS1 hn,wS h3 (by omega)]
 ·have hv3:v=3:=by omega
  subst hv3;refine Jrg ?_;have hw:=Uz act;rw[Jz,if_pos h] at hw;have e:=JoF (JdC h) act.length 0 [JA 0,JA 1,JA 2] [] [] [] 0 (by omega) (by omega) (by simp) (by omega) (by omega) rfl hpp (by simp) (by simp) (by simp) (by simp) (by
   show 0+(walk (act.drop (0:Int).toNat) _ [] []).length≤1000;rw[show (0:Int).toNat=0 from rfl,List.drop_zero];omega)
  refine Jrw e rfl rfl rfl (JqZ ?_);show [D.s (JV ([]++walk (act.drop (0:Int).toNat) [JA 0,JA 1,JA 2] [] []))]=_;simp[Jz,h]
/- What draws of any acts come to,and the comparisons of rows. -/
def Jpz (f:Frm):Prop:=f.c.length≤3∧f.d.length≤3
def Je4 (a:List Jc):Prop:=a.length≤7∧∀l∈a,Jpz l.f
theorem Je4.fit {a:List Jc} (h:Je4 a):Ym a:=⟨by have:=h.1;omega,fun l hl=>⟨by have:=(h.2 l hl).1;omega,by have:=(h.2 l hl).2;omega⟩⟩
theorem Je4.set {a:List Jc} (h:Je4 a) {x:Jc} (hx:Jpz x.f) (k:Nat):Je4 (a.set k x):=by
 refine⟨by simp;exact h.1,fun l hl=>?_⟩;rcases Jr3 hl with hl | hl
 ·exact h.2 l hl
 ·subst hl;exact hx
/- Each way is ok,and there are at most two for each test: over residual programs. -/
def JpO (g : FuncId) (sh : Sh) (as : List E) (k1 k2 : Nat) : R :=
  .ite (.not (.cmp .eq (.len (.v 0)) (.len (.v 1))))
   (
    .done [(.vb .ff)])
   (
    .loop 2 [(.z 0)] <|
      .ite (.cmp .lt (.v 2) (.len (.v 0)))
       (
        .i (.idx (.v 0) (.v 2) sh 3) <|
        .i (.idx (.v 1) (.v 2) sh k1) <|
        .i (.call g as [.b] k2) <|
        .ite (.not (.v k2))
         (
          .esc <|
          .done [(.vb .ff)])
         (
          .next [(.bin .add .i64 (.v 2) (.z 1))]))
       (
        .esc <|
        .done [(.vb .tt)]))
theorem KC {α:Type} [DecidableEq α] {f g:FuncId} {H:Ye} {s:Sig} {sh:Sh} {as:List E} {k1 k2:Nat} (enc:α→D) (vsOf:α→List V) (args:α→List D) (a b:List α) (hf:L.lookup f=some ⟨s,.r H (JpO g sh as k1 k2)⟩) (hs:ZW s=[.s,.s])
  (hb :∀x,ZE sh (enc x)=some (vsOf x)) (hk1 :∀x,3+(vsOf x).length=k1) (hk2 :∀x,k1+(vsOf x).length=k2)
  (ha :∀(v0 v1 v2:V) (x y:α),as.map (dat (Js ([v0,v1,v2]++vsOf x++vsOf y)))=args x++args y)
  (hc :∀x∈a,∀y,Ev L g (args x++args y) [dB (decide (x=y))]) (hl:a.length≤2000000) :
  Ev L f [.s (a.map enc),.s (b.map enc)] [dB (decide (a=b))]:=by
 refine JrA (vs:=[.l (a.map enc),.l (b.map enc)]) hf (by rw[hs];rfl) ?_;refine Jrx (¬a.length=b.length) ?_ (fun h=>JqZ ?_) (fun h=>?_)
 ·show (!(decide (((a.map enc).length:Int)=((b.map enc).length:Int))))=_;rw[JrN,JrN]
  by_cases h:a.length=b.length
  ·simp[h]
  ·simp[h,show ¬(a.length:Int)=b.length by omega]
 ·show [dB false]=_;rw[decide_eq_false];intro e;exact h (by rw[e])
 have h:a.length=b.length:=Classical.not_not.1 h;refine Jq0 a.length (fun i=>[.i i]) (fun i=>a.take i=b.take i) rfl rfl rfl fun i hi hp=>?_;refine Jru i (JrN (f:=enc) (as:=a)) rfl (fun h'=>?_) (fun h'=>?_)
 ·obtain⟨x,hx,hmx⟩:=sA1 h';obtain⟨y,hy,_⟩:=sA1 (show i<b.length by omega);have k1x:=hk1 x;have k1y:=hk1 y;have k2x:=hk2 x;refine Jrd i (mA1 (f:=enc) hx) rfl rfl rfl (hb x) ?_;refine Jrd i (mA1 (f:=enc) hy) (by simp;omega) rfl rfl (hb y) ?_;refine Jq4 (ds:=[dB (decide (x=y))]) (vs:=[.b (decide (x=y))]) (by simp;omega) (by
   show Ev L g (as.map (dat (Js ([V.l (a.map enc),.l (b.map enc),.i i]++vsOf x++vsOf y)))) _;rw[ha];exact hc x hmx y) rfl ?_
  have e1 :∀(t:V),Js ([V.l (a.map enc),.l (b.map enc),.i i]++vsOf x++vsOf y++[t]) k2=t:=by
   intro t;unfold Js;rw[JrH,Jr6 (by simp;omega)];rw[show k2-([V.l (a.map enc),.l (b.map enc),.i i]++vsOf x++vsOf y).length=0 by simp;omega];rfl
  refine Jrm (decide (x=y)) (by show (!(den (Js ([V.l (a.map enc),.l (b.map enc),.i i]++vsOf x++vsOf y++[V.b (decide (x=y))])) (.v k2)).bool)=_;simp only[den,e1];rfl) (fun hxy=>Jrg (JqZ ?_)) (fun hxy=>?_)
  ·show [dB false]=_;rw[decide_eq_false];intro e;subst e;rw[hx] at hy;simp only[JrD] at hy;simp[hy] at hxy
  ·have hxy:x=y:=by simpa using hxy
   subst hxy;refine Jrq (vs:=[.i ((i+1:Nat):Int)]) ?_ ⟨h',rfl,by show a.take (i+1)=b.take (i+1);rw[tS1 hx,tS1 hy,hp]⟩;show [V.i (i64.wrap ((i:Int)+1))]=_;rw[wS h' (by omega)]
 ·refine Jrg (JqZ ?_);rw[tA1 h',tA1 (by omega)] at hp;subst hp;show [dB true]=_;simp
theorem Jph (n:Int) (h0:0≤n) (hn:n≤2000000):Ev L f_k3e [dI n] [.s []]:=by
 refine JrA (vs:=[.i n]) L_k3e rfl ?_;have hw:i64.wrap (n-i64.wrap (0-0))=n:=by rw[w64 (n:=0-0) (by omega) (by omega),w64 (by omega) (by omega)];omega
 refine Jrx (n<0) rfl (fun h=>by omega) (fun _=>?_);refine Jrx (0<n) (by show decide (0<i64.wrap (n-i64.wrap (0-0)))=_;rw[hw]) (fun h=>?_) (fun h=>JqZ rfl);refine Jq7 (0<n) (by show decide (0<i64.wrap (n-i64.wrap (0-0)))=_;rw[hw]) h ?_;refine Jq7 (n≤1256584717458) (by show decide (i64.wrap (n-i64.wrap (0-0))≤1256584717458)=_;rw[hw]) (by omega) ?_;refine Jrs ?_ (JqZ ?_)
 ·show decide ((0:Int)≤((List.replicate (i64.wrap (n-i64.wrap (0-0))).toNat (D.g [.s [],.s [],dI 0])).length:Int))=true;simp only[decide_eq_true_eq];omega
 ·show [D.s ((List.replicate (i64.wrap (n-i64.wrap (0-0))).toNat (D.g [.s [],.s [],dI 0])).take (0:Int).toNat)]=_;simp
def dFF (ls:List (List Frm)):List D:=ls.map fun l=> .s (dF l)
theorem Jks (ls:List (List Frm)):(dFF ls).length=ls.length:=by simp[dFF]
theorem JpG (a b:List Frm):dF a++dF b=dF (a++b):=by simp[dF]
def Ur (ls:List (List Frm)):Nat:=(ls.map List.length).sum
theorem JkT {ls:List (List Frm)} {i:Nat} {l:List Frm} (h:ls[i]? = some l):Ur (ls.take (i+1))=Ur (ls.take i)+l.length:=by
 unfold Ur;rw[tS1 h];simp
theorem Jk0 (ls:List (List Frm)):ls.flatten.length=Ur ls:=by simp[Ur,List.length_flatten]
theorem Jpo {ls:List (List Frm)} {N:Nat} (h :∀l∈ls,l.length≤N) (i:Nat):Ur (ls.take i)≤N*ls.length:=by
 have :∀(ls:List (List Frm)),(∀l∈ls,l.length≤N)→Ur ls≤N*ls.length:=by
  intro ls
  induction ls with
  | nil=>intro _;simp[Ur]
  | cons l ls ih =>
   intro h;have h1:=h l (by simp);have h2:=ih fun x hx=>h x (by simp[hx]);simp only[Ur,JrM,List.sum_cons,List.length_cons,Nat.mul_add] at *;omega
 have h1:=this (ls.take i) fun l hl=>h l (Jr2 hl);refine Nat.le_trans h1 (Nat.mul_le_mul_left _ (by simp;omega))
theorem Jmh (ls:List (List Frm)) (hl:ls.length≤100) (h1 :∀l∈ls,l.length≤1000):Ev L f_k3f [.s (dFF ls)] [.s (dF ls.flatten)]:=by
 refine JrA (vs:=[.l (dFF ls)]) L_k3f rfl ?_;have hle :∀i,Ur (ls.take i)≤100000:=fun i=>Nat.le_trans (Jpo h1 i) (by omega);refine Jq0 ls.length (fun i=>[.i (Ur (ls.take i)),.i i]) (fun _=>True) rfl rfl trivial fun i hi _=>?_;have hli:=hle i;refine Jru i (Jks ls) rfl (fun h=>?_) (fun h=>?_)
 ·obtain⟨x,hx,hm⟩:=sA1 h;have hxl:=h1 x hm;refine Jrd i (mA1 (f:=fun l=> .s (dF l)) hx) rfl rfl rfl rfl ?_;have hw:i64.wrap ((Ur (ls.take i):Int)+((dF x).length:Int))=(Ur (ls.take (i+1)):Int):=by
   rw[JS,JkT hx,w64 (by omega) (by omega)];rfl
  refine Jrx (((Ur (ls.take (i+1)):Int))<0) (by show decide (i64.wrap ((Ur (ls.take i):Int)+((dF x).length:Int))<0)=_;rw[hw]) (fun h=>by omega) (fun _=>?_);refine Jrq (vs:=[.i (Ur (ls.take (i+1))),.i ((i+1:Nat):Int)]) ?_ ⟨h,rfl,trivial⟩;show [V.i (i64.wrap ((Ur (ls.take i):Int)+((dF x).length:Int))),V.i (i64.wrap ((i:Int)+1))]=_;rw[wS h (by omega),hw]
 ·refine Jrg ?_;refine Jrw (Jph (Ur (ls.take i)) (by omega) (by omega)) rfl rfl rfl ?_;simp only[sC,sN];refine Jq0 ls.length (fun j=>[.l (dF (ls.take j).flatten),.i j]) (fun _=>True) rfl rfl trivial fun j hj _=>?_;simp only[sC,sN];refine Jru j (Jks ls) rfl (fun h=>?_) (fun h=>?_)
  ·obtain⟨x,hx,hm⟩:=sA1 h;have hxl:=h1 x hm;have hlj:=hle j;refine Jrd j (mA1 (f:=fun l=> .s (dF l)) hx) rfl rfl rfl rfl ?_;refine Jre (dF x) 1000 (by rw[JS];exact hxl) (by omega) rfl ?_;refine Jro (JoT x) ?_;refine Jre (dF (ls.take j).flatten++dF x) 2000000 (by rw[JrK,JS,JS,Jk0];omega) (by omega) rfl ?_;refine Jrq (vs:=[.l (dF (ls.take (j+1)).flatten),.i ((j+1:Nat):Int)]) ?_ ⟨h,rfl,trivial⟩;show [V.l (dF (ls.take j).flatten++dF x),V.i (i64.wrap ((j:Int)+1))]=_;rw[wS h (by omega),JpG,tS1 hx];simp
  ·refine Jrg (JqZ ?_);show [D.s (dF (ls.take j).flatten)]=_;rw[tA1 h]
/- What an act does not turn stays: over residual programs. -/
theorem Jk8 {a b:List Int} {i:Nat} {x y A B:Int} (hx:a[i]? = some x) (hy:b[i]? = some y) (ha:Lim A a) (hb:Lim B b) (hA:0≤A) (hB:0≤B) (hi:i<1000) (hAB:A*B≤1000000000000000) :
  i64.wrap (dot (a.take i) (b.take i)+i64.wrap (x*y))=dot (a.take (i+1)) (b.take (i+1)):=by
 have h1:=Ud (ha.take i) (hb.take i) hA hB;have h2:((a.take i).length:Int)≤1000:=by simp;omega
 have h0:0≤A*B:=Int.mul_nonneg hA hB;have h3:=ZU (ha x (JrL hx)) (hb y (JrL hy));have h4:A*B*((a.take i).length:Int)≤A*B*1000:=Int.mul_le_mul_of_nonneg_left h2 h0;rw[WP hx hy,w64 (n:=x*y) (by omega) (by omega),w64 (by omega) (by omega)]
theorem Jj3 {p a:List Int} {A B:Int} (hp:Lim A p) (ha:Lim B a) (hA:0≤A) (hB:0≤B) (hAB:A*B≤1000000000000000) (hl:p.length=a.length) (h9:p.length≤999):Ev L f_k42 [.s (dL p),.s (dL a)] [dI (dot p a)]:=by
 refine JrA (vs:=[.l (dL p),.l (dL a)]) L_k42 rfl ?_;refine Jq0 p.length (fun i=>[.i (dot (p.take i) (a.take i)),.i i]) (fun _=>True) rfl rfl trivial fun i hi _=>?_;refine Jru i (dL1 p) rfl (fun h=>?_) (fun h=>?_)
 ·obtain⟨x,hx,_⟩:=sA1 (show i<p.length by omega);obtain⟨y,hy,_⟩:=sA1 (show i<a.length by omega);refine Jrd i (mA1 (f:=dI) hx) rfl rfl rfl rfl ?_;refine Jrd i (mA1 (f:=dI) hy) rfl rfl rfl rfl ?_;refine Jrq (vs:=[.i (dot (p.take (i+1)) (a.take (i+1))),.i ((i+1:Nat):Int)]) ?_ ⟨h,rfl,trivial⟩;show [V.i (i64.wrap (dot (p.take i) (a.take i)+i64.wrap (x*y))),V.i (i64.wrap ((i:Int)+1))]=_;rw[wS h (by omega),Jk8 hx hy hp ha hA hB (by omega) hAB]
 ·refine Jrg (JqZ ?_);show [dI (dot (p.take i) (a.take i))]=_;rw[tA1 h,tA1 (by omega)]
structure VT (f:Frm) (v w:List Int):Prop where
 c:f.c.length=3
 d:f.d.length=2
 v3:v.length=3
 w2:w.length=2
 a : ∃ A B:Int,0≤A∧0≤B∧A*B≤1000000000000000∧Lim A f.c∧Lim A f.d∧Lim B v∧Lim B w∧-1000000000000000≤f.k∧f.k≤1000000000000000
theorem VT.sums {f:Frm} {v w:List Int} (h:VT f v w):(-3000000000000000≤dot f.c v∧dot f.c v≤3000000000000000)∧(-2000000000000000≤dot f.d w∧dot f.d w≤2000000000000000)∧-1000000000000000≤f.k∧f.k≤1000000000000000:=by
 obtain⟨A,B,hA,hB,hAB,h1,h2,h3,h4,h5⟩:=h.a;have a:=Ud h1 h3 hA hB;have b:=Ud h2 h4 hA hB;rw[h.c] at a;rw[h.d] at b;exact⟨by omega,by omega,h5⟩
theorem JpK {f:Frm} {v w:List Int} (h:VT f v w):Ev L f_k4m (f.cells++[.s (dL v),.s (dL w)]) [dI (atF f v w)]:=by
 obtain⟨A,B,hA,hB,hAB,h1,h2,h3,h4,h5⟩:=h.a;obtain⟨s1,s2,s3⟩:=h.sums;refine JrA (vs:=[.l (dL f.c),.l (dL f.d),.i f.k,.l (dL v),.l (dL w)]) L_k4m rfl ?_;refine Jrw (Jj3 h1 h3 hA hB hAB (by rw[h.c,h.v3]) (by rw[h.c];omega)) rfl rfl rfl ?_;refine Jrw (Jj3 h2 h4 hA hB hAB (by rw[h.d,h.w2]) (by rw[h.d];omega)) rfl rfl rfl (JqZ ?_);show [dI (i64.wrap (i64.wrap (dot f.c v+dot f.d w)+f.k))]=_;rw[w64 (n:=dot f.c v+dot f.d w) (by omega) (by omega),w64 (by omega) (by omega)];rfl
theorem Q3 {l:List Int}:J3 l=true↔l.length=3∧Lim 10000 l:=by
 unfold J3;rw[JB];exact⟨fun h=>⟨by omega,h.2⟩,fun h=>⟨by omega,h.2⟩⟩
theorem X9 {l:List Int}:XN l=true↔l.length=2∧Lim 9 l:=by
 unfold XN;rw[JB];exact⟨fun h=>⟨by omega,h.2⟩,fun h=>⟨by omega,h.2⟩⟩
theorem VT.small {f:Frm} {x w:List Int} (hf:f.small=true) (hx:x.length=3) (hl:Lim 2000000000 x) (hw:XN w=true):VT f x w:=by
 obtain⟨h1,h2,h3,h4,h5⟩:=Q7 hf;obtain⟨w1,w2⟩:=X9.1 hw;exact⟨h1,h2,hx,w1,2,2000000000,by omega,by omega,by omega,h3,h4,hl,w2.mono (by omega),by omega⟩
def Res.ds (r:Res):List D:=[dI r.code,.s (dL r.tells),.s (dL r.is)]
theorem JkC {l:Jc} (h:l.ok=true) (h1 : ¬l.kind=1) (h2 : ¬l.kind=2) (h4 : ¬l.kind=4):l.kind=3:=by
 unfold Jc.ok at h;rw[if_neg h1,if_neg h2] at h;split at h
 ·assumption
 ·simp[h4] at h
theorem Jln (a:List Jc) (v w:List Int) (ha:Ym a) (hv:v.length≤2000000) (hw:w.length≤2000000):Ev L f_k4n [.s (Ji a),.s (dL v),.s (dL w)] (Res.ds (Xo a v w)):=by
 refine JrA (vs:=[.l (Ji a),.l (dL v),.l (dL w)]) L_k4n rfl ?_;have none:(Qh a&&(J3 v&&XN w))=false→Xo a v w=⟨0,[],[]⟩:=fun h=>by simp[Xo,h]
 refine Jrw (Ja1 a ha) rfl rfl rfl ?_;refine Jrm (Qh a) rfl (fun h=>JqZ ?_) (fun h=>?_)
 ·rw[none (by simp[h])];rfl
 refine Jrw (KJ v hv) rfl rfl rfl ?_;refine Jrm (J3 v) rfl (fun h2=>JqZ ?_) (fun h2=>?_)
 ·rw[none (by simp[h2])];rfl
 refine Jrw (JgT w hw) rfl rfl rfl ?_;refine Jrm (XN w) rfl (fun h3=>JqZ ?_) (fun h3=>?_)
 ·rw[none (by simp[h3])];rfl
 have hrun:Xo a v w=run v w a v []:=by simp[Xo,h,h2,h3]
 rw[hrun];obtain⟨v1,v2⟩:=Q3.1 h2;obtain⟨w1,w2⟩:=X9.1 h3;obtain⟨a1,a2⟩:=ZK h;refine Jrw (J0 v hv) rfl rfl rfl ?_;simp only[sC,sN];refine Jrr (fun m vs=>∃ (i:Int) (x t:List Int) (j:Nat),vs=[.l (dL t),.l (dL x),.i i]∧0≤i∧i≤20∧m=a.length-i.toNat∧(j:Int)≤i∧j≤6∧x.length=3∧Lim (XB j) x∧t.length≤j∧run v w (a.drop i.toNat) x t=run v w a v []) rfl a.length
  ⟨0,v,[],0,rfl,by omega,by omega,by simp,by omega,by omega,v1,v2,by simp,by simp⟩ ?_
 rintro m _ ⟨i,x,t,j,rfl,i0,i20,hm,hji,hj6,hx,hl,ht,hr⟩;rw[←hr];clear hr;simp only[sC,sN];have hX0:=Jc6 j;have hXl:=Jnp hj6;refine Jrx (i<((Ji a).length:Int)) rfl (fun hi=>?_) (fun hi=>?_)
 ·rw[JU] at hi;obtain⟨l,hla,hd⟩:=Vm i0 hi;have hok:=a2 l (JrL hla);have hdr:=Ya hla;have hs1:(i+1).toNat=i.toNat+1:=by omega
  refine Jq9 (ds:=Ji a) i rfl rfl rfl i0 hd rfl ?_;simp only[sC,sN];refine Jrx (l.kind=4) rfl (fun h4=>?_) (fun h4=>?_)
  ·refine Jrw (J0 v hv) rfl rfl rfl (Jrg (JqZ ?_));rw[hdr,run,if_pos h4];rfl
  have hsm:=QS hok h4;have hlx:Lim 2000000000 x:=hl.mono hXl;refine Jrw (JpK (VT.small hsm hx hlx h3)) rfl rfl rfl ?_;have hb:=Jc8 hsm hl w2 hX0;simp only[sC,sN];have hrn:run v w (a.drop i.toNat) x t=if l.kind=1 then(if atF l.f x w<0 then run v w (a.drop (i+l.skip+1).toNat) x t else run v w (a.drop (i+1).toNat) x t)
    else if l.kind=2 then run v w (a.drop (i+1).toNat) (x.set l.pot.toNat (x.getD l.pot.toNat 0+atF l.f x w)) t else run v w (a.drop (i+1).toNat) x (t++[atF l.f x w]):=by
   rw[hdr,run,if_neg h4,hs1]
   by_cases h1:l.kind=1
   ·have hsk:=VG hok h1;rw[if_pos h1,if_pos h1,List.drop_drop,show i.toNat+1+l.skip.toNat=(i+l.skip+1).toNat by omega]
   ·rw[if_neg h1,if_neg h1]
  rw[hrn];clear hrn;generalize atF l.f x w=n at *;refine Jrx (l.kind=1) rfl (fun h1=>?_) (fun h1=>?_)
  ·have hsk:=VG hok h1;rw[if_pos h1];refine Jrx (n<0) rfl (fun hn=>?_) (fun hn=>?_)
   ·rw[if_pos hn];refine Jrq (vs:=[.l (dL t),.l (dL x),.i (i+l.skip+1)]) ?_ ⟨a.length-(i+l.skip+1).toNat,by omega,i+l.skip+1,x,t,j,rfl,by omega,by omega,rfl,by omega,by omega,hx,hl,ht,rfl⟩;show [V.l (dL t),V.l (dL x),V.i (i64.wrap (i64.wrap (i+l.skip)+1))]=_;rw[w64 (n:=i+l.skip) (by omega) (by omega),w64 (by omega) (by omega)]
   ·rw[if_neg hn];refine Jrq (vs:=[.l (dL t),.l (dL x),.i (i+1)]) ?_ ⟨a.length-(i+1).toNat,by omega,i+1,x,t,j,rfl,by omega,by omega,rfl,by omega,by omega,hx,hl,ht,rfl⟩;show [V.l (dL t),V.l (dL x),V.i (i64.wrap (i+1))]=_;rw[w64 (by omega) (by omega)]
  rw[if_neg h1];have hj5:j<6:=by omega
  refine Jrx (l.kind=2) rfl (fun h2'=>?_) (fun h2'=>?_)
  ·have hpt:=JcV hok h2';rw[if_pos h2'];have hxp:=Vv (l:=x) (i:=l.pot.toNat) (by omega);have hdx:(dL x)[l.pot.toNat]? = some (dI (x.getD l.pot.toNat 0)):=mA1 (f:=dI) hxp;have hlp:=hl _ (JrL hxp);generalize x.getD l.pot.toNat 0=y at *;refine Jq7 (0≤l.pot) rfl hpt.1 ?_;refine Jq7 (l.pot<((dL x).length:Int)) rfl (by rw[dL1];omega) ?_;refine Jq9 (ds:=dL x) l.pot rfl rfl rfl hpt.1 hdx rfl ?_;refine Jq7 (0≤l.pot) rfl hpt.1 ?_;refine Jq7 (l.pot<((dL x).length:Int)) rfl (by rw[dL1];omega) ?_;refine Jq9 (ds:=dL x) l.pot rfl rfl rfl hpt.1 hdx rfl ?_;simp only[sC,sN];have hstep:XB (j+1)=7*XB j+60:=rfl;refine Jrq (vs:=[.l (dL t),.l (dL (x.set l.pot.toNat (y+n))),.i (i+1)]) ?_ ⟨a.length-(i+1).toNat,by omega,i+1,x.set l.pot.toNat (y+n),t,j+1,rfl,by omega,by omega,rfl,by omega,by omega,by simp[hx],(hl.mono (Vn (by omega))).set (by omega) _,by omega,rfl⟩;show [V.l (dL t),V.l ((dL x).set l.pot.toNat (dI (i64.wrap (y+n)))),V.i (i64.wrap (i+1))]=_;rw[w64 (n:=i+1) (by omega) (by omega),w64 (by omega) (by omega),Kk]
  rw[if_neg h2'];have h3':=JkC hok h1 h2' h4;refine Jrx (l.kind=3) rfl (fun _=>?_) (fun h=>absurd h3' h);refine Jrk (dL t) 10 (by rw[dL1];omega) (by omega) rfl ?_;refine Jrq (vs:=[.l (dL (t++[n])),.l (dL x),.i (i+1)]) ?_ ⟨a.length-(i+1).toNat,by omega,i+1,x,t++[n],j+1,rfl,by omega,by omega,rfl,by omega,by omega,hx,hl.mono (Vn (by omega)),by simp;omega,rfl⟩;show [V.l (dL t++[dI n]),V.l (dL x),V.i (i64.wrap (i+1))]=_;rw[w64 (by omega) (by omega),Jb9]
 ·rw[JU] at hi;rw[List.drop_eq_nil_of_le (by omega),run];refine Jrg ?_;refine Jrw (KJ x (by omega)) rfl rfl rfl ?_;unfold Je6;refine Jrm (J3 x) rfl (fun hvx=>?_) (fun hvx=>JqZ ?_)
  ·rw[hvx,if_neg (by simp)];exact Jrw (J0 v hv) rfl rfl rfl (JqZ rfl)
  ·rw[hvx];rfl
theorem JoG (h:Row→Nat→Bool) (as:List (List Jc)) (hf:Xb as) {fn:FuncId} {caps:List D} (hcap:QY (.f fn caps) = .f fn caps) (har:arT L fn=some ([some 4,none]++caps.map fun _=>none))
  (hc :∀r,Kf r→∀v:Nat,v<3→Ev L fn (r.cells++[dI v]++caps.map D.norm) [dB (h r v)]):Ev L f_k3d [.s (Jf as),.f fn caps] [.s (dBl (V6 h as))]:=by
 have hl:=hf.1;refine JrA (vs:=[.l (Jf as),.d (.f fn caps)]) L_k3d rfl ?_;refine Jrf as.length (fun i vs=>∃ p:List Bool,vs=[.l (dBl p),.i i]∧p.length=3∧p=V6 h (as.take i)) rfl ⟨[false,false,false],rfl,rfl,rfl⟩ ?_;rintro i _ hi ⟨p,rfl,hp,hpe⟩;simp only[sC,sN];refine Jru i (QO as) rfl (fun h'=>?_) (fun h'=>?_)
 ·obtain⟨a,ha,hm⟩:=sA1 h';have hB:V6 h (as.take (i+1))=(Jz a).foldl (fun p r=>orB p (h r)) p:=by rw[hpe];exact QR ha
  refine Jrd i (mA1 (f:=fun a=> .s (Ji a)) ha) rfl rfl rfl rfl ?_;refine Jrw (JcA a (hf.2 a hm)) rfl rfl rfl ?_;have hrf :∀r∈Jz a,Kf r:=ZI;have hrl:=Uz a;generalize Jz a=rs at *;refine Jrf rs.length (fun k vs=>∃ q:List Bool,vs=[.l (dBl q),.i k]∧q.length=3∧q=(rs.take k).foldl (fun p r=>orB p (h r)) p) rfl ⟨p,rfl,hp,rfl⟩ ?_;rintro k _ hk ⟨q,rfl,hq,hqe⟩;simp only[sC,sN];refine Jru k (X3 rs) rfl (fun h''=>?_) (fun h''=>?_)
  ·obtain⟨r,hr,hmr⟩:=sA1 h'';have hfit:=hrf r hmr;have hC:(rs.take (k+1)).foldl (fun p r=>orB p (h r)) p=orB q (h r):=by rw[hqe];exact QR hr
   refine Jrc k (rdR hr) rfl rfl rfl rfl rfl rfl ?_;have hO:(orB q (h r)).length=3:=by rw[Zb];exact hq
   refine Jq0 3 (fun v=>[.l (dBl ((orB q (h r)).take v++q.drop v)),.i v]) (fun _=>True) rfl rfl trivial fun v hv _=>?_;simp only[sC,sN];refine Jru v (show (dBl q).length=3 by rw[JgN];exact hq) rfl (fun hv3=>?_) (fun hv3=>?_)
   ·obtain⟨b,hb,_⟩:=sA1 (show v<q.length by omega);have ho:=Wm (h:=h r) hb;have hcur:((orB q (h r)).take v++q.drop v)[v]? = some b:=by
     rw[Jr6 (by simp;omega),List.getElem?_drop];rw[show v+(v-((orB q (h r)).take v).length)=v by simp;omega];exact hb
    have nx :∀c:Bool,c=(b||h r v)→[V.l ((dBl ((orB q (h r)).take v++q.drop v)).set (v:Int).toNat (dB c)),V.i (i64.wrap ((v:Int)+1))]=[.l (dBl ((orB q (h r)).take (v+1)++q.drop (v+1))),.i ((v+1:Nat):Int)]:=by
     intro c hc';rw[←hc'] at ho;rw[wS hv3 (by omega),Jkk,Int.toNat_natCast,JmM (by omega) ho]
    refine Jrc v (mA1 (f:=dB) hcur) rfl rfl rfl rfl rfl rfl ?_;refine Jq5 b rfl (fun hbt=>?_) (fun hbf=>?_)
    ·refine Jrc v (mA1 (f:=dB) hcur) rfl rfl rfl rfl rfl rfl ?_;exact Jrq (nx true (by simp[hbt])) ⟨hv3,rfl,trivial⟩
    ·refine Jq3 (fn:=fn) (caps:=caps) (ds:=[dB (h r v)]) (vs:=[.b (h r v)]) rfl hcap har (hc r hfit v hv3) rfl ?_;refine Jrc v (mA1 (f:=dB) hcur) rfl rfl rfl rfl rfl rfl ?_;exact Jrq (nx (h r v) (by simp[hbf])) ⟨hv3,rfl,trivial⟩
   ·have hv3:v=3:=by omega
    subst hv3;rw[JrI (by omega),List.drop_eq_nil_of_le (by omega),List.append_nil];refine Jrg (Jrq (vs:=[.l (dBl (orB q (h r))),.i ((k+1:Nat):Int)]) ?_ ⟨h'',orB q (h r),rfl,hO,hC.symm⟩);show [V.l (dBl (orB q (h r))),V.i (i64.wrap ((k:Int)+1))]=_;rw[wS h'' (by omega)]
  ·rw[tA1 h''] at hqe;refine Jrg (Jrq (vs:=[.l (dBl q),.i ((i+1:Nat):Int)]) ?_ ⟨h',q,rfl,hq,by rw[hB,hqe]⟩);show [V.l (dBl q),V.i (i64.wrap ((i:Int)+1))]=_;rw[wS h' (by omega)]
 ·refine Jrg (JqZ ?_);show [D.s (dBl p)]=_;rw[tA1 h'] at hpe;rw[hpe]
/- All is kept an eye on; who tells of a pot pins it; with an act more there is more: over residual programs. -/
theorem Jji (x:Int):Ev L f_k37 [dI x] [dB (nz x)]:=JrA (vs:=[.i x]) L_k37 rfl (JqZ rfl)
theorem Jox (l:List Int) (hl:l.length=3):Ev L f_k38 [.s (dL l)] [dB (decide (l=[0,0,0]))]:=by
 refine JrA (vs:=[.l (dL l)]) L_k38 rfl ?_;refine Jrw (Vx nz l (fn:=f_k37) (caps:=[]) (by omega) rfl rfl fun x _=>Jji x) rfl rfl rfl (JqZ ?_);show [dB (!(l.any nz))]=_;obtain⟨a,b,c,rfl⟩:=JaV hl
 congr 3
 by_cases h1:a=0 <;> by_cases h2:b=0 <;> by_cases h3:c=0 <;> simp[nz,h1,h2,h3]
theorem JfK (x:Int):Ev L f_k35 [dI x] [dB (nz x)]:=JrA (vs:=[.i x]) L_k35 rfl (JqZ rfl)
theorem Jnu (f:Frm) (hl:Lim 1000000000 f.c) (hn:f.c.length≤2000000):Ev L f_k36 f.cells [.s (dL (Jn f.c))]:=by
 refine JrA (vs:=[.l (dL f.c),.l (dL f.d),.i f.k]) L_k36 rfl ?_;refine Jrw (J0 f.c hn) rfl rfl rfl ?_;refine Jrw (Jfj nz f.c (fn:=f_k35) (caps:=[]) hn rfl rfl fun x _=>JfK x) rfl rfl rfl ?_;simp only[sC,sN];rcases Jbk nz f.c with ⟨hp,ha⟩ | ⟨i,x,hp,hx,hnx,ht⟩
 ·rw[hp];refine Jra rfl (JqZ ?_);show [D.s (dL f.c)]=_;rw[Jiy ha]
 rw[hp];have hi:=(JrF.1 hx).1;have hs:=JiD hx hnx ht;have hx0:x≠0:=by simpa[nz] using hnx
 refine Jrx ((0:Int)≤(i:Int)) rfl (fun _=>?_) (fun h=>by omega);refine Jrc i (mA1 (f:=dI) hx) rfl rfl rfl rfl rfl rfl ?_;simp only[sC,sN];refine Jrx (x<0) rfl (fun hneg=>?_) (fun hpos=>JqZ ?_)
 ·have hpart:Jn f.c=f.c.map fun y=>0-y:=by
   unfold Jn;rw[hs,if_neg (by omega)];apply Jr0;intro y _;omega
  rw[hpart];refine Jq0 f.c.length (fun k=>[.l (dL ((f.c.map fun y=>0-y).take k++f.c.drop k)),.i k]) (fun _=>True) rfl rfl trivial fun k hk _=>?_;simp only[sC,sN];refine Jru k (dL1 f.c) rfl (fun h=>?_) (fun h=>?_)
  ·obtain⟨y,hy,hm⟩:=sA1 h;have hly:=hl y hm;have hcur:((f.c.map fun y=>0-y).take k++f.c.drop k)[k]? = some y:=by
    rw[Jr6 (by simp;omega),List.getElem?_drop];rw[show k+(k-((f.c.map fun y=>0-y).take k).length)=k by simp;omega];exact hy
   have hny:(f.c.map fun y=>0-y)[k]? = some (0-y):=by simp[hy]
   refine Jrc k (mA1 (f:=dI) hcur) rfl rfl rfl rfl rfl rfl ?_;refine Jrc k (mA1 (f:=dI) hcur) rfl rfl rfl rfl rfl rfl ?_;refine Jrq (vs:=[.l (dL ((f.c.map fun y=>0-y).take (k+1)++f.c.drop (k+1))),.i ((k+1:Nat):Int)]) ?_ ⟨h,rfl,trivial⟩;show [V.l ((dL ((f.c.map fun y=>0-y).take k++f.c.drop k)).set (k:Int).toNat (dI (i64.wrap (0-y)))),V.i (i64.wrap ((k:Int)+1))]=_;rw[wS h (by omega),w64 (by omega) (by omega),Kk,Int.toNat_natCast,JmM (by simp) hny]
  ·refine Jrg (JqZ ?_);show [D.s (dL ((f.c.map fun y=>0-y).take k++f.c.drop k))]=_;rw[JrI (by simp;omega),List.drop_eq_nil_of_le (by omega),List.append_nil]
 ·show [D.s (dL f.c)]=_;unfold Jn;rw[hs,if_pos (by omega)]
  congr 3
  conv=>lhs;rw[←List.map_id f.c]
  apply Jr0;intro y _;show y=1*y;omega
theorem Jh7 (q p:List Int) (hq:q.length≤2000000):Ev L f_k39 [.s (dL q),.q [.s (dL p)]] [dB (decide (q=p))] :=
 JrA (vs:=[.l (dL q),.d (.q [.s (dL p)])]) L_k39 rfl (Jq6 (vs:=[.l (dL p)]) rfl rfl (Jrw (Jch q p hq) rfl rfl rfl (JqZ rfl)))
theorem Jpb (l:List (List Int)) (p:List Int) (hl:l.length≤2000000) (hq :∀q∈l,q.length≤2000000):Ev L f_k3b [.s (dLL l),.s (dL p)] [dI (Up l p)] :=
 JrA (vs:=[.l (dLL l),.l (dL p)]) L_k3b rfl (Jrw (JcZ (fun q=>decide (q=p)) l (fn:=f_k39) (caps:=[.q [.s (dL p)]]) hl rfl rfl fun q h=>Jh7 q p (hq q h)) rfl rfl rfl (JqZ rfl))
theorem Jjm (a:List Jc) (ha:Ym a):Ev L f_k2i ([.s (Ji a)]++([]:List D).map D.norm) [dB (!Qh a)] :=
 JrA (vs:=[.l (Ji a)]) L_k2i rfl (Jrw (Ja1 a ha) rfl rfl rfl (JqZ rfl))
theorem JaI (as:List (List Jc)) (hf:Xb as):Ev L f_k2j [.s (Jf as)] [dB (QK as)]:=by
 have hl:=hf.1;refine JrA (vs:=[.l (Jf as)]) L_k2j rfl ?_;refine Jrw (X2 as.length 1 4) rfl ?_ rfl ?_
 ·show [dI ((Jf as).length:Int),dI 1,dI 4]=_;rw[QO]
 refine Jq5 (inB as.length 1 4) rfl (fun h=>?_) (fun h=>JqZ ?_)
 ·have e:Ev L f_k28 [.s (Jf as),.f f_k2i []] [dB (as.any fun a=>!Qh a)] :=
   X5 (g := f_k27) L_k28 rfl rfl
     (YM (sh:= .one .s) (as:=[(.s (.v 3))]) (ar:=[none]) (k:=4) (caps:=[]) (fun a=> .s (Ji a)) (fun a=>!Qh a) (fun a=>[.s (Ji a)]) (fun a=>[.l (Ji a)]) as
       L_k27 rfl hl rfl (fun _ _=>rfl) (fun _ _=>rfl) (fun _ _ _ _=>rfl) rfl fun a ha=>Jjm a (hf.2 a ha))
  refine Jrw e rfl rfl rfl (JqZ ?_);show [dB (!(as.any fun a=>!Qh a))]=_;rw[Z5];simp[QK,h]
 ·show [dB false]=_;simp[QK,h]
set_option maxHeartbeats 2000000 in
theorem JlJ (as:List (List Jc)) (hf:Xb as):Ev L f_k3c [.s (Jf as)] [.s (dLL (Jg as))]:=by
 refine JrA (vs:=[.l (Jf as)]) L_k3c rfl ?_;refine Jrw (JaI as hf) rfl rfl rfl ?_;refine Jrm (QK as) rfl (fun h=>JqZ ?_) (fun hok=>?_)
 ·show [D.s []]=_;simp[Jg,h,dLL]
 have h4:=(KM hok).2.1;have hcf:Jg as=(Wk as).1:=by simp[Jg,hok]
 rw[hcf];simp only[sC,sN];refine Jq0 3 (fun v=>[.l (dLL (Yu.take v)),.i v]) (fun _=>True) rfl rfl trivial fun v hv _=>?_;simp only[sC,sN];refine Jrh v 3 rfl (fun hv3=>?_) (fun hv3=>?_)
 ·refine Jrw (Jf4 v (by omega) (by omega)) rfl rfl rfl ?_;refine Jri (Yp _) ?_;have hp:Yu[v]? = some (JA (v:Int).toNat).c:=by
   rw[Int.toNat_natCast]
   match v,hv3 with
   | 0,_ | 1,_ | 2,_=>rfl
   | n+3,h=>omega
  refine Jrk (dLL (Yu.take v)) 3 (by rw[K7];simp;omega) (by omega) rfl ?_;refine Jrq (vs:=[.l (dLL (Yu.take (v+1))),.i ((v+1:Nat):Int)]) ?_ ⟨hv3,rfl,trivial⟩;show [V.l (dLL (Yu.take v)++[.s (dL (JA (v:Int).toNat).c)]),V.i (i64.wrap ((v:Int)+1))]=_;rw[wS hv3 (by omega),WN,tS1 hp]
 have hv3:v=3:=by omega
 subst hv3;refine Jrg ?_;refine Jrf as.length (fun i vs=>∃ b:List (List Int)×List Bool,vs=[.l (dLL b.1),.i i]∧b=Wk (as.take i)) rfl ⟨(Yu,[false,false,false]),rfl,rfl⟩ ?_;rintro i _ hi ⟨⟨b1,b2⟩,rfl,hb⟩;simp only[sC,sN];refine Jru i (QO as) rfl (fun h=>?_) (fun h=>?_)
 ·obtain⟨a,ha,hm⟩:=sA1 h;have hB:Wk (as.take (i+1))=XS (b1,b2) a:=by rw[hb];exact QR ha
  obtain⟨f1,f2⟩:=Jdn (as.take i);rw[←hb] at f1 f2;have f1:=f1.mono (show 3+384*(as.take i).length≤1600 by simp;omega);have hrl:=Uz a;refine Jrd i (mA1 (f:=fun a=> .s (Ji a)) ha) rfl rfl rfl rfl ?_;refine Jrw (JcA a (hf.2 a hm)) rfl rfl rfl ?_;have hrf :∀r∈Jz a,Kf r:=ZI;have hAB:XS (b1,b2) a=(Jz a).foldl Qo (b1,b2):=rfl;generalize Jz a=rs at *;refine Jrf rs.length (fun k vs=>∃ c:List (List Int)×List Bool,vs=[.l (dLL c.1),.i k]∧c=(rs.take k).foldl Qo (b1,b2)) rfl ⟨(b1,b2),rfl,rfl⟩ ?_;rintro k _ hk ⟨⟨c1,c2⟩,rfl,hc⟩;simp only[sC,sN];refine Jru k (X3 rs) rfl (fun h'=>?_) (fun h'=>?_)
  ·obtain⟨r,hr,hmr⟩:=sA1 h';have hfit:=hrf r hmr;have hC:(rs.take (k+1)).foldl Qo (b1,b2)=Qo (c1,c2) r:=by rw[hc];exact QR hr
   obtain⟨g1,g2⟩:=f1.rows f2 (rs:=rs.take k) fun x hx=>hrf x (Jr2 hx);rw[←hc] at g1 g2;have g1:=g1.mono (show 1600+6*(rs.take k).length≤2000 by simp;omega);refine Jrc k (rdR hr) rfl rfl rfl rfl rfl rfl ?_;simp only[sC,sN];have hR:Qo (c1,c2) r=(r.guards.foldl Jk c1,Qp (Qp c2 r.adds) r.tells):=rfl;have hgl:=hfit.gl;refine Jrf r.guards.length (fun g vs=>∃ e:List (List Int),vs=[.l (dLL e),.i g]∧e=(r.guards.take g).foldl Jk c1) rfl ⟨c1,rfl,rfl⟩ ?_;rintro g _ hg ⟨e,rfl,he⟩;simp only[sC,sN];refine Jru g (JS r.guards) rfl (fun hg'=>?_) (fun hg'=>?_)
   ·obtain⟨f,hfg,hmf⟩:=sA1 hg';have hsf:=hfit.g f hmf;have hE:(r.guards.take (g+1)).foldl Jk c1=Jk e f:=by rw[he];exact QR hfg
    have e1:=(g1.adds (fs:=r.guards.take g) fun x hx=>hfit.g x (Jr2 hx)).mono (show 2000+(r.guards.take g).length≤2010 by simp;omega);rw[←he] at e1;have nx :∀(x:List (List Int)),x=Jk e f→[V.l (dLL x),V.i (i64.wrap ((g:Int)+1))]=[.l (dLL (Jk e f)),.i ((g+1:Nat):Int)]:=by
     intro x hx;rw[hx,wS hg' (by omega)]
    refine Jrd g (mA1 (f:=Frm.g) hfg) rfl rfl rfl rfl ?_;refine Jrw (Jnu f (hsf.lc.mono (by omega)) (by rw[hsf.c];omega)) rfl rfl rfl ?_;simp only[sC,sN];have el:=e1.len;have hp3:(Jn f.c).length=3:=by rw[Jan];exact hsf.c
    have hAP:Jk e f=if Up e (Jn f.c)<0∧Jn f.c≠[0,0,0] then e++[Jn f.c] else e:=rfl;generalize Jn f.c=pt at *;refine Jrw (Jox pt hp3) rfl rfl rfl ?_;refine Jrm (decide (pt=[0,0,0])) rfl (fun hz=>?_) (fun hz=>?_)
    ·refine Jrw (Jpb e pt (by omega) (fun q hq=>by rw[(e1.each q hq).1];omega)) rfl rfl rfl ?_;generalize Up e pt=ha at *;refine Jrx (ha<0) rfl (fun h0=>?_) (fun h0=>?_)
     ·refine Jri (Yp _) ?_;refine Jrk (dLL e) 3000 (by rw[K7];omega) (by omega) rfl ?_;refine Jrq (vs:=[.l (dLL (Jk e f)),.i ((g+1:Nat):Int)]) ?_ ⟨hg',Jk e f,rfl,hE.symm⟩;show [V.l (dLL e++[.s (dL pt)]),V.i (i64.wrap ((g:Int)+1))]=_;rw[WN];refine nx _ ?_;rw[hAP,if_pos ⟨h0,by simpa using hz⟩]
     ·refine Jrq (nx e ?_) ⟨hg',Jk e f,rfl,hE.symm⟩;rw[hAP,if_neg];intro ⟨h,_⟩;exact h0 h
    ·refine Jrq (nx e ?_) ⟨hg',Jk e f,rfl,hE.symm⟩;rw[hAP,if_neg];intro ⟨_,h⟩;exact h (by simpa using hz)
   ·refine Jrg ?_;rw[tA1 hg'] at he;refine Jrq (vs:=[.l (dLL e),.i ((k+1:Nat):Int)]) ?_ ⟨h',(e,(Qo (c1,c2) r).2),rfl,by rw[hC,he];rfl⟩;show [V.l (dLL e),V.i (i64.wrap ((k:Int)+1))]=_;rw[wS h' (by omega)]
  ·refine Jrg ?_;rw[tA1 h'] at hc;refine Jrq (vs:=[.l (dLL c1),.i ((i+1:Nat):Int)]) ?_ ⟨h,(c1,c2),rfl,by rw[hB,hAB,hc]⟩;show [V.l (dLL c1),V.i (i64.wrap ((i:Int)+1))]=_;rw[wS h (by omega)]
 ·refine Jrg (JqZ ?_);show [D.s (dLL b1)]=_;rw[tA1 h] at hb;rw[←hb]
def Jnl (as:List (List Jc)):Prop:=as.length≤5∧∀a∈as,Je4 a
theorem Jnl.fit {as:List (List Jc)} (h:Jnl as):Xb as:=⟨by have:=h.1;omega,fun a ha=>(h.2 a ha).fit⟩
theorem JjD (f:Frm) (hf:f.c.length=3) (v:Nat) (hv:v<3):Ev L f_k3g (f.cells++[D.q [dI v]].map D.norm) [dB (decide (f.c.getD v 0≠0))]:=by
 refine JrA (vs:=[.l (dL f.c),.l (dL f.d),.i f.k,.d (.q [dI v])]) L_k3g rfl ?_;refine Jq6 (vs:=[.i v]) rfl rfl ?_;refine Jrd v (mA1 (f:=dI) (Vv (by omega))) rfl rfl rfl rfl (JqZ ?_);show [dB (!(decide (f.c.getD v 0=0)))]=_;simp
theorem Jna (r:Row) (hr:Kf r) (v:Nat) (hv:v<3):Ev L f_k3h (r.cells++[dI v]++([]:List D).map D.norm) [dB (Y3 r v)]:=by
 refine JrA (vs:=[.l (dF r.guards),.l (dF r.adds),.l (dF r.tells),.b r.stop,.i v]) L_k3h rfl ?_;have ha:=hr.al;have ht:=hr.tl;refine Jrw (Jmh [r.adds,r.tells] (by simp) (by simp;omega)) rfl rfl rfl ?_;have hfl:[r.adds,r.tells].flatten=r.adds++r.tells:=by simp
 rw[hfl];have h3 :∀f∈r.adds++r.tells,f.c.length=3:=by
  intro f hf;rcases JrJ.1 hf with hf | hf
  ·exact(hr.a f hf).c
  ·exact(hr.t f hf).c
 have hlen:(r.adds++r.tells).length≤2000000:=by simp;omega
 unfold Y3;generalize r.adds++r.tells=all at *;exact Jrw (JeA (fun f=>decide (f.c.getD v 0≠0)) all (fn:=f_k3g) (caps:=[.q [dI v]]) hlen rfl rfl fun f hf=>JjD f (h3 f hf) v hv) rfl rfl rfl (JqZ rfl)
theorem JnQ (as:List (List Jc)) (hf:Xb as):Ev L f_k3i [.s (Jf as)] [.s (dBl (JT as))]:=by
 refine JrA (vs:=[.l (Jf as)]) L_k3i rfl ?_;refine Jrw (JaI as hf) rfl rfl rfl ?_;refine Jrm (QK as) rfl (fun h=>JqZ ?_) (fun h=>?_)
 ·show [D.s []]=_;simp[JT,h,dBl]
 ·refine Jrw (JoG Y3 as hf (fn:=f_k3h) (caps:=[]) rfl rfl fun r hr v hv=>Jna r hr v hv) rfl rfl rfl (JqZ ?_);show [D.s (dBl (V6 Y3 as))]=_;rw[Jdi h]
end Go.Proofs.YtgpjnnkmmplicabGreatDoor
