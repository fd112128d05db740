/- Part of the proof: the law FnServiceRun is true for every input. -/
import Derived.Deep.AppendLies
import Derived.Test.YtjciicheoghcdaaGreatDoorVe
import Derived.Test.YtjciicheoghcdaaGreatDoorVg
import Derived.Test.YtjciicheoghcdaaGreatDoorVi
import Derived.Test.YtjciicheoghcdaaGreatDoorVk
import Derived.Test.YtjciicheoghcdaaGreatDoorVm
namespace Go.Proofs.YtjciicheoghcdaaGreatDoor
open Go.RowKit Go.Proofs.Tryz
set_option linter.all false
set_option maxRecDepth 20000
set_option maxHeartbeats 16000000
section
def gro (n:Int):Int:=if n < -48 then 1 else if n < -32 then 2 else if n < -16 then 4 else if n<0 then 8 else if n<16 then 16 else if n<32 then 32 else 64
def fnv (kind:Int) (k:Nat):Int:=if kind=1 then (sgn k/16)%4096 else if kind=2 then (if 0<=sgn k then sgn k else 0) else if kind=3 then lv k else if kind=4 then gro (sgn k) else if sgn k<=0 then 0 else 256/sgn k
theorem pX (kind:Int) (k:Nat):0<=fnv kind k/\fnv kind k<=4095:=by
 have h:=Bd (k:Int);unfold fnv
 split
 ·omega
 split
 ·split <;> omega
 split
 ·have:=BL k;omega
 split
 ·unfold gro
  repeat' split
  all_goals omega
 ·split
  ·omega
  ·rename_i h5
   refine⟨Int.ediv_nonneg (by omega) (by omega),?_⟩
   have:=Int.ediv_le_self (a:=256) (sgn k) (by omega)
   omega
theorem xL {n:Nat} {g:Nat->Int} {v:List Int} (hn:v.length=n) (h:∀ k,k<n->g k=v.getD k 0):fl g n=v:=by
 apply List.ext_getElem (by simp[aD,hn])
 intro k h1 h2;have hk:k<n:=by simpa [aD] using h1
 have:=h k hk;simp only[fl,List.getElem_map,List.getElem_range];rw[this,List.getD_eq_getElem?_getD,List.getElem?_eq_getElem h2]
 rfl
theorem wj {m e:Mx} (h:az m e=true):aq (e,aE bC m e)=m:=by
 obtain⟨h1,h2,h3,h4⟩:=i_ h;have hs:=kW h;have hl:=bt h;have hk:az e (aE bC m e)=true:=aY h2 hs.1 (by rw[hs.2.1,h3]) (by rw[hs.2.2,h4])
 show aE aJ e (aE bC m e)=m
 rw[fi hk,<-h3,<-h4];have:fl (pv aJ e (aE bC m e)) e.v.length=m.v:=by
  refine xL hl.1 fun k hk=>?_
  unfold pv;have hke:k<m.v.length:=by omega
  have e1:(aE bC m e).v.getD k 0=bC (m.v.getD k 0) (e.v.getD k 0):=by
   rw[fi h]
   show (fl (pv bC m e) m.v.length).getD k 0=_
   rw[Bx _ hke]
   rfl
  rw[e1];have a1:=dE h1 k;have a2:=dE h2 k;unfold bC;rw[if_pos ⟨kH h1 k,kH h2 k⟩];unfold aJ;rw[if_pos ⟨kH h2 k,sl _⟩]
  omega
 rw[this]
theorem qn {s:Int} (h:sdB s=true):∀ k,sdB (mpS s k)=true
 | 0=>h
 | k+1=>cS (cS (qn h k) 2) 4096
theorem zo {p q:Mx×Mx} {f g:Nat->Int} (h:okS p=true) (e:q=(⟨p.1.r,p.1.c,fl f p.1.v.length⟩,⟨p.1.r,p.1.c,fl g p.1.v.length⟩)) (hf:∀ k,k<p.1.v.length->rv (f k)=true) (hg:∀ k,k<p.1.v.length->rv (g k)=true):okS q=true/\q.1.r=p.1.r/\q.1.c=p.1.c:=by
 subst e;obtain⟨h1,_,_,_⟩:=ai h;obtain⟨l1,s1,s2,_⟩:=cZ h1
 exact⟨aY (mf s1 s2 l1 hf) (mf s1 s2 l1 hg) rfl rfl,rfl,rfl⟩
theorem ja (f:Nat->Int) {p:Mx×Mx} {s:Int} (h:okS p=true) (hs:sdB s=true):okS (dv f p s).1=true/\(dv f p s).1.1.r=p.1.r/\(dv f p s).1.1.c=p.1.c/\sdB (dv f p s).2=true:=by
 obtain⟨h1,h2,h3⟩:=zo h (q:=(dv f p s).1) rfl (fun k _=>aR (Av _ _)) (fun k _=>aR (Az _ _ _))
 exact⟨h1,h2,h3,qn hs _⟩
theorem Bi {r i c s:Int} (hr:side r=true) (hi:side i=true) (hc:side c=true):TOK (ig r i c s).a (ig r i c s).b (ig r i c s).c:=by
 have oa:okS (xq r i s)=true:=aY (bU hr hi) (bU hr hi) rfl rfl;have ob:okS (xr r i c s)=true:=aY (bU hi hc) (bU hi hc) rfl rfl;have hab:(xq r i s).1.c=(xr r i c s).1.r:=rfl;have hmm:=eV (eZ oa ob hab);have hlk:az (mulM (aq (xq r i s)) (aq (xr r i c s))) (cT r c (E7 r i c s))=true:=aY hmm.1 (bU hr hc) (by rw[hmm.2.1,(aN oa).2.1];rfl) (by rw[hmm.2.2,(aN ob).2.2];rfl)
 have hs:=kW hlk
 exact⟨oa,ob,aY (bU hr hc) hs.1 ((hs.2.1.trans hmm.2.1).trans (aN oa).2.1).symm ((hs.2.2.trans hmm.2.2).trans (aN ob).2.2).symm,hab,wj hlk⟩
theorem sF {x y:Mx×Mx} (hx:okS x=true) (hy:okS y=true) (h1:x.1.r=y.1.r) (h2:x.1.c=y.1.c):az (aq x) (aq y)=true:=by
 have a:=aN hx;have b:=aN hy
 exact aY a.1 b.1 (by rw[a.2.1,b.2.1,h1]) (by rw[a.2.2,b.2.2,h2])
structure POK (x y:Mx×Mx) (t:MTr):Prop where
 ox:okS x=true
 oy:okS y=true
 xy:x.1.c=y.1.r
 tk:TOK t.a t.b t.c
 ar:x.1.r=t.a.1.r
 ac:x.1.c=t.a.1.c
 br:y.1.r=t.b.1.r
 bc:y.1.c=t.b.1.c
 cr:t.c.1.r=x.1.r
 cc:t.c.1.c=y.1.c
section
variable {x y:Mx×Mx} {t:MTr}
theorem POK.ld (h:POK x y t):az (aq x) (aq t.a)=true:=sF h.ox h.tk.va h.ar h.ac
theorem POK.le (h:POK x y t):az (aq y) (aq t.b)=true:=sF h.oy h.tk.vb h.br h.bc
theorem POK.d (h:POK x y t):mvB (pD x t)=true/\(pD x t).r=x.1.r/\(pD x t).c=x.1.c:=by
 have:=kW h.ld;have a:=aN h.ox
 exact⟨this.1,this.2.1.trans a.2.1,this.2.2.trans a.2.2⟩
theorem POK.e (h:POK x y t):mvB (pE y t)=true/\(pE y t).r=y.1.r/\(pE y t).c=y.1.c:=by
 have:=kW h.le;have a:=aN h.oy
 exact⟨this.1,this.2.1.trans a.2.1,this.2.2.trans a.2.2⟩
theorem POK.db1 (h:POK x y t):iz (pD x t) t.b.1=true:=jd h.d.1 (ai h.tk.vb).1 (by rw[h.d.2.2,h.xy,h.br])
theorem POK.db2 (h:POK x y t):iz (pD x t) t.b.2=true:=jd h.d.1 (ai h.tk.vb).2.1 (by rw[h.d.2.2,h.xy,h.br,(ai h.tk.vb).2.2.1])
theorem POK.ae1 (h:POK x y t):iz t.a.1 (pE y t)=true:=jd (ai h.tk.va).1 h.e.1 (by rw[h.e.2.1,<-h.ac,h.xy])
theorem POK.ae2 (h:POK x y t):iz t.a.2 (pE y t)=true:=jd (ai h.tk.va).2.1 h.e.1 (by rw[h.e.2.1,<-(ai h.tk.va).2.2.2,<-h.ac,h.xy])
theorem POK.de (h:POK x y t):iz (pD x t) (pE y t)=true:=jd h.d.1 h.e.1 (by rw[h.d.2.2,h.e.2.1,h.xy])
theorem POK.c1 (h:POK x y t):az t.c.1 (mulM (pD x t) t.b.1)=true:=by
 have m:=eV h.db1
 exact aY (ai h.tk.vc).1 m.1 (by rw[m.2.1,h.d.2.1,h.cr]) (by rw[m.2.2,h.cc,h.bc])
theorem POK.c2 (h:POK x y t):az t.c.2 (mulM (pD x t) t.b.2)=true:=by
 have m:=eV h.db2
 exact aY (ai h.tk.vc).2.1 m.1 (by rw[m.2.1,h.d.2.1,<-h.cr,(ai h.tk.vc).2.2.1]) (by rw[m.2.2,<-(ai h.tk.vc).2.2.2,h.cc,h.bc,(ai h.tk.vb).2.2.2])
theorem POK.s1 (h:POK x y t):az (aE aJ t.c.1 (mulM (pD x t) t.b.1)) (mulM t.a.1 (pE y t))=true:=by
 have m:=eV h.ae1;have a:=fc h.c1
 exact aY a.1 m.1 (by rw[a.2.1,m.2.1,h.cr,h.ar]) (by rw[a.2.2,m.2.2,h.cc,h.e.2.2])
theorem POK.s2 (h:POK x y t):az (aE aJ t.c.2 (mulM (pD x t) t.b.2)) (mulM t.a.2 (pE y t))=true:=by
 have m:=eV h.ae2;have a:=fc h.c2
 exact aY a.1 m.1 (by rw[a.2.1,m.2.1,<-(ai h.tk.vc).2.2.1,h.cr,h.ar,(ai h.tk.va).2.2.1]) (by rw[a.2.2,m.2.2,<-(ai h.tk.vc).2.2.2,h.cc,h.e.2.2])
theorem POK.one (h:POK x y t):mvB (sb t.c.1 (pD x t) t.b.1 t.a.1 (pE y t))=true/\(sb t.c.1 (pD x t) t.b.1 t.a.1 (pE y t)).r=x.1.r/\(sb t.c.1 (pD x t) t.b.1 t.a.1 (pE y t)).c=y.1.c:=by
 have a:=fc h.s1;have b:=fc h.c1
 exact⟨a.1,(a.2.1.trans b.2.1).trans h.cr,(a.2.2.trans b.2.2).trans h.cc⟩
theorem POK.l1 (h:POK x y t):az (sb t.c.1 (pD x t) t.b.1 t.a.1 (pE y t)) (mulM (pD x t) (pE y t))=true:=by
 have m:=eV h.de
 exact aY h.one.1 m.1 (by rw[h.one.2.1,m.2.1,h.d.2.1]) (by rw[h.one.2.2,m.2.2,h.e.2.2])
theorem POK.ok (h:POK x y t):okS (dw x y t,dF x y t)=true/\(dw x y t).r=x.1.r/\(dw x y t).c=y.1.c:=by
 have a:=fc h.l1;have b:=fc h.s2;have c:=fc h.c2;have ar:(dw x y t).r=x.1.r:=a.2.1.trans h.one.2.1;have ac:(dw x y t).c=y.1.c:=a.2.2.trans h.one.2.2;refine⟨aY a.1 b.1 ?_ ?_,ar,ac⟩
 ·show (dw x y t).r=(dF x y t).r
  rw[ar];show _=(aE aJ _ _).r
  rw[b.2.1,c.2.1,<-(ai h.tk.vc).2.2.1,h.cr]
 ·show (dw x y t).c=(dF x y t).c
  rw[ac];show _=(aE aJ _ _).c
  rw[b.2.2,c.2.2,<-(ai h.tk.vc).2.2.2,h.cc]
end
theorem qq {x y:Mx×Mx} {s:Int} (hx:okS x=true) (hy:okS y=true) (hxy:x.1.c=y.1.r):POK x y (ig x.1.r x.1.c y.1.c s):=by
 obtain⟨s1,s2⟩:=aA (ai hx).1;obtain⟨_,s3⟩:=aA (ai hy).1
 exact⟨hx,hy,hxy,Bi s1 s2 s3,rfl,rfl,hxy.symm,rfl,rfl,rfl⟩
theorem yx {r i c s:Int} (h:sdB s=true):sdB (oC r i c s)=true:=cS (cS (cS (cS (cS h _) _) _) _) _
theorem kI {x y:Mx×Mx} {s:Int} (hx:okS x=true) (hy:okS y=true) (hxy:x.1.c=y.1.r) (hs:sdB s=true):okS (dG x y s).1=true/\(dG x y s).1.1.r=x.1.r/\(dG x y s).1.1.c=y.1.c/\sdB (dG x y s).2=true:=by
 obtain⟨h1,h2,h3⟩:=(qq (s:=s) hx hy hxy).ok
 exact⟨h1,h2,h3,yx hs⟩
def eI (x y:Mx×Mx) (s:Int):(Mx×Mx)×Int:=dv (fnv 1) (dG x y s).1 (dG x y s).2
theorem gV {x y:Mx×Mx} {s:Int} (hx:okS x=true) (hy:okS y=true) (hxy:x.1.c=y.1.r) (hs:sdB s=true):okS (eI x y s).1=true/\(eI x y s).1.1.r=x.1.r/\(eI x y s).1.1.c=y.1.c/\sdB (eI x y s).2=true:=by
 obtain⟨a1,a2,a3,a4⟩:=kI hx hy hxy hs;obtain⟨b1,b2,b3,b4⟩:=ja (fnv 1) a1 a4
 exact⟨b1,b2.trans a2,b3.trans a3,b4⟩
def scS (s:Int):Nat->Int
 | 0=>s
 | k+1=>sds (scS s k) 5
def scD (p:Mx×Mx) (s:Int) (k:Nat):Int:=mD (p.1.v.getD k 0) (p.2.v.getD k 0) (rn s 0) (rn s 1)
def scE (q:Mx×Mx) (s:Int) (r:Nat):Int:=mD (q.1.v.getD r 0) (q.2.v.getD r 0) (rn s 2) (rn s 3)
def sc1 (p q:Mx×Mx) (s:Int) (k:Nat):Int:=mP1 (rn (scS s k) 4) (rn (scS s k) 2) (rn (scS s k) 0) (scD p (scS s k) k) (scE q (scS s k) (k/p.1.c.toNat))
def sc2 (p q:Mx×Mx) (s:Int) (k:Nat):Int:=mP2 ((tC (scS s k)-rn (scS s k) 4)%4096) (rn (scS s k) 3) (rn (scS s k) 1) (scD p (scS s k) k) (scE q (scS s k) (k/p.1.c.toNat))
def c_ (p q:Mx×Mx) (s:Int):(Mx×Mx)×Int:=((⟨p.1.r,p.1.c,fl (sc1 p q s) p.1.v.length⟩,⟨p.1.r,p.1.c,fl (sc2 p q s) p.1.v.length⟩),scS s p.1.v.length)
theorem qH {s:Int} (h:sdB s=true):∀ k,sdB (scS s k)=true
 | 0=>h
 | k+1=>cS (qH h k) 5
theorem pK {p q:Mx×Mx} {s:Int} (h:okS p=true) (hs:sdB s=true):okS (c_ p q s).1=true/\(c_ p q s).1.1.r=p.1.r/\(c_ p q s).1.1.c=p.1.c/\sdB (c_ p q s).2=true:=by
 obtain⟨h1,h2,h3⟩:=zo h (q:=(c_ p q s).1) rfl (fun k _=>sl _) (fun k _=>sl _)
 exact⟨h1,h2,h3,qH hs _⟩
def iu (p:Mx×Mx) (cs:Int):Mx×Mx:=(jA p.1 cs,jA p.2 cs)
def jz (p:Mx×Mx):Mx×Mx:=(ir p.1,ir p.2)
def mi (p:Mx×Mx):Mx×Mx:=(il p.1,il p.2)
theorem sH {m:Mx} {cs:Int} (h:mvB m=true) (hc:side cs=true):mvB (jA m cs)=true:=by
 obtain⟨s1,_⟩:=aA h;refine mf s1 hc ?_ (fun k _=>kH h _)
 push_cast
 rw[et s1,et hc]
theorem sG {m:Mx} (h:mvB m=true):mvB (ir m)=true/\(ir m).r=m.c/\(ir m).c=m.r:=by
 obtain⟨s1,s2⟩:=aA h;rw[qN h];refine⟨mf s2 s1 ?_ (fun k _=>kH h _),rfl,rfl⟩
 push_cast
 rw[et s1,et s2]
theorem sh {m:Mx} (h:mvB m=true):mvB (il m)=true/\(il m).r=m.r/\(il m).c=1:=by
 obtain⟨s1,s2⟩:=aA h;rw[qu h];refine⟨mf s1 (by decide) ?_ (fun k _=>sl _),rfl,rfl⟩
 rw[et s1];omega
theorem oF {p:Mx×Mx} {cs:Int} (h:okS p=true) (hc:side cs=true):okS (iu p cs)=true:=by
 obtain⟨h1,h2,h3,_⟩:=ai h
 exact aY (sH h1 hc) (sH h2 hc) h3 rfl
theorem kY {p:Mx×Mx} (h:okS p=true):okS (jz p)=true/\(jz p).1.r=p.1.c/\(jz p).1.c=p.1.r:=by
 obtain⟨h1,h2,h3,h4⟩:=ai h;have a:=sG h1;have b:=sG h2
 exact⟨aY a.1 b.1 ((a.2.1.trans h4).trans b.2.1.symm) ((a.2.2.trans h3).trans b.2.2.symm),a.2.1,a.2.2⟩
theorem n_ {p:Mx×Mx} (h:okS p=true):okS (mi p)=true/\(mi p).1.r=p.1.r/\(mi p).1.c=1:=by
 obtain⟨h1,h2,h3,h4⟩:=ai h;have a:=sh h1;have b:=sh h2
 exact⟨aY a.1 b.1 ((a.2.1.trans h3).trans b.2.1.symm) (a.2.2.trans b.2.2.symm),a.2.1,a.2.2⟩
theorem vD {a b:Mx×Mx} (ha:okS a=true) (hb:okS b=true) (h1:a.1.r=b.1.r) (h2:a.1.c=b.1.c):okS (jX a b)=true/\(jX a b).1.r=a.1.r/\(jX a b).1.c=a.1.c:=by
 obtain⟨a1,a2,a3,a4⟩:=ai ha;obtain⟨b1,b2,b3,b4⟩:=ai hb;have x:=fc (aY a1 b1 h1 h2);have y:=fc (aY a2 b2 (by rw[<-a3,<-b3,h1]) (by rw[<-a4,<-b4,h2]))
 exact⟨aY x.1 y.1 (by show (aE aJ a.1 b.1).r=(aE aJ a.2 b.2).r;rw[x.2.1,y.2.1,a3]) (by show (aE aJ a.1 b.1).c=(aE aJ a.2 b.2).c;rw[x.2.2,y.2.2,a4]),x.2.1,x.2.2⟩
def ec (w b x:Mx×Mx) (s:Int):(Mx×Mx)×Int:=(jX (eI w x s).1 (iu b x.1.c),(eI w x s).2)
theorem uI {w b x:Mx×Mx} {s:Int} (hw:okS w=true) (hb:okS b=true) (hx:okS x=true) (hwx:w.1.c=x.1.r) (hbw:b.1.r=w.1.r) (hs:sdB s=true):okS (ec w b x s).1=true/\(ec w b x s).1.1.r=w.1.r/\(ec w b x s).1.1.c=x.1.c/\sdB (ec w b x s).2=true:=by
 obtain⟨a1,a2,a3,a4⟩:=gV hw hx hwx hs;obtain⟨_,sc⟩:=aA (ai hx).1;obtain⟨b1,b2,b3⟩:=vD a1 (oF hb sc) (by rw[a2];exact hbw.symm) a3
 exact⟨b1,b2.trans a2,b3.trans a3,a4⟩
structure xz where
 q:(Mx×Mx)×Int
 k:(Mx×Mx)×Int
 v:(Mx×Mx)×Int
 t:(Mx×Mx)×Int
 g:(Mx×Mx)×Int
 m:(Mx×Mx)×Int
 e:(Mx×Mx)×Int
 h:(Mx×Mx)×Int
 o:(Mx×Mx)×Int
structure Bn (a b c x:Mx×Mx) (s:Int) (z:xz):Prop where
 q:z.q=eI x a s
 k:z.k=eI x b z.q.2
 v:z.v=eI x c z.k.2
 t:z.t=eI z.q.1 (jz z.k.1) z.v.2
 g:z.g=dv (fnv 4) z.t.1 z.t.2
 m:z.m=dv (fnv 5) (mi z.g.1) z.g.2
 e:z.e=c_ z.g.1 z.m.1 z.m.2
 h:z.h=dv (fnv 1) z.e.1 z.e.2
 o:z.o=eI z.h.1 z.v.1 z.h.2
def yc (a b c x:Mx×Mx) (s:Int):xz :=
 let q:=eI x a s
 let k:=eI x b q.2
 let v:=eI x c k.2
 let t:=eI q.1 (jz k.1) v.2
 let g:=dv (fnv 4) t.1 t.2
 let m:=dv (fnv 5) (mi g.1) g.2
 let e:=c_ g.1 m.1 m.2
 let h:=dv (fnv 1) e.1 e.2
 ⟨q,k,v,t,g,m,e,h,eI h.1 v.1 h.2⟩
theorem AB (a b c x:Mx×Mx) (s:Int):Bn a b c x s (yc a b c x s):=⟨rfl,rfl,rfl,rfl,rfl,rfl,rfl,rfl,rfl⟩
def nR (a b c x:Mx×Mx) (s:Int):(Mx×Mx)×Int:=(yc a b c x s).o
def OKD (z:(Mx×Mx)×Int) (r c:Int):Prop:=okS z.1=true/\z.1.1.r=r/\z.1.1.c=c/\sdB z.2=true
structure Cp (x:Mx×Mx) (z:xz):Prop where
 q:OKD z.q x.1.r x.1.c
 k:OKD z.k x.1.r x.1.c
 v:OKD z.v x.1.r x.1.c
 t:OKD z.t x.1.r x.1.r
 g:OKD z.g x.1.r x.1.r
 m:OKD z.m x.1.r 1
 e:OKD z.e x.1.r x.1.r
 h:OKD z.h x.1.r x.1.r
 o:OKD z.o x.1.r x.1.c
theorem AD {a b c x:Mx×Mx} {s:Int} {z:xz} (R:Bn a b c x s z) (ha:okS a=true) (hb:okS b=true) (hc:okS c=true) (hx:okS x=true) (a1:a.1.r=x.1.c) (a2:a.1.c=x.1.c) (b1:b.1.r=x.1.c) (b2:b.1.c=x.1.c) (c1:c.1.r=x.1.c) (c2:c.1.c=x.1.c) (hs:sdB s=true):Cp x z:=by
 have q:OKD z.q x.1.r x.1.c:=by
  obtain⟨h1,h2,h3,h4⟩:=gV hx ha a1.symm hs;rw[R.q];exact⟨h1,h2,h3.trans a2,h4⟩
 have k:OKD z.k x.1.r x.1.c:=by
  obtain⟨h1,h2,h3,h4⟩:=gV hx hb b1.symm q.2.2.2;rw[R.k];exact⟨h1,h2,h3.trans b2,h4⟩
 have v:OKD z.v x.1.r x.1.c:=by
  obtain⟨h1,h2,h3,h4⟩:=gV hx hc c1.symm k.2.2.2;rw[R.v];exact⟨h1,h2,h3.trans c2,h4⟩
 have t:OKD z.t x.1.r x.1.r:=by
  have u:=kY k.1;obtain⟨h1,h2,h3,h4⟩:=gV q.1 u.1 (by rw[q.2.2.1,u.2.1,k.2.2.1]) v.2.2.2
  rw[R.t];exact⟨h1,h2.trans q.2.1,h3.trans (u.2.2.trans k.2.1),h4⟩
 have g:OKD z.g x.1.r x.1.r:=by
  obtain⟨h1,h2,h3,h4⟩:=ja (fnv 4) t.1 t.2.2.2;rw[R.g];exact⟨h1,h2.trans t.2.1,h3.trans t.2.2.1,h4⟩
 have m:OKD z.m x.1.r 1:=by
  have u:=n_ g.1;obtain⟨h1,h2,h3,h4⟩:=ja (fnv 5) u.1 g.2.2.2;rw[R.m];exact⟨h1,h2.trans (u.2.1.trans g.2.1),h3.trans u.2.2,h4⟩
 have e:OKD z.e x.1.r x.1.r:=by
  obtain⟨h1,h2,h3,h4⟩:=pK (q:=z.m.1) g.1 m.2.2.2;rw[R.e];exact⟨h1,h2.trans g.2.1,h3.trans g.2.2.1,h4⟩
 have h:OKD z.h x.1.r x.1.r:=by
  obtain⟨h1,h2,h3,h4⟩:=ja (fnv 1) e.1 e.2.2.2;rw[R.h];exact⟨h1,h2.trans e.2.1,h3.trans e.2.2.1,h4⟩
 have o:OKD z.o x.1.r x.1.c:=by
  obtain⟨h1,h2,h3,h4⟩:=gV h.1 v.1 (by rw[h.2.2.1,v.2.1]) h.2.2.2
  rw[R.o];exact⟨h1,h2.trans h.2.1,h3.trans v.2.2.1,h4⟩
 exact⟨q,k,v,t,g,m,e,h,o⟩
end
section
def bo (p:Mx×Mx) (s:Int) (N:Nat) (w:World) (e:Ending) (w':World):Prop:=∃ A c B d C n k v,e= .returned (.tuple #[SMV p.1.r p.1.c A p.1.v.length c p.2.r p.2.c B p.2.v.length d,.slice C n k,.int .i64 s])/\OS w' w.heap.size A p.1.v.length c p.1.v/\OS w' w.heap.size B p.2.v.length d p.2.v/\OS w' w.heap.size C n k v/\(1<=n/\n<=N)/\Below w.heap.size w w'
theorem OS.reb {w:World} {b b' n c:Nat} {A:Option Addr} {xs:List Int} (h:OS w b A n c xs) (hb:∀ i,blk A=some i->b'<=i):OS w b' A n c xs:=by
 refine⟨h.1,?_⟩;rcases h.2 with h2|⟨g,c',cur,e,_,rest⟩
 ·exact .inl h2
 ·exact .inr ⟨g,c',cur,e,hb g (by injection e with e;rw[e];rfl),rest⟩
inductive Rb (b b':Nat):Ow->Ow->Prop
 | k {g:Nat} {t:TypeId} {cs:List Value}:Rb b b' (qB g t cs) (qB g t cs)
 | o {A:Option Addr} {n c:Nat} {xs:List Int}:Rb b b' (qO b A n c xs) (qO b' A n c xs)
 | s {A B:Option Addr} {c d:Nat} {p:Mx×Mx}:Rb b b' (qS b A c B d p) (qS b' A c B d p)
 | so {A B C:Option Addr} {c d n k:Nat} {p:Mx×Mx} {xs:List Int}:Rb b b' ((qS b A c B d p).and (qO b C n k xs)) ((qS b' A c B d p).and (qO b' C n k xs))
theorem Rb.p {b b':Nat} {c d:Ow} {w:World}:Rb b b' c d->c.P w->(∀ i,c.F i->b'<=i)->d.P w
 | .k,h,_=>h
 | .o,h,e=>OS.reb h e
 | .s,h,e=>⟨OS.reb h.1 fun i f=>e i (.inl f),OS.reb h.2 fun i f=>e i (.inr f)⟩
 | .so,h,e=>⟨⟨OS.reb h.1.1 fun i f=>e i (.inl (.inl f)),OS.reb h.1.2 fun i f=>e i (.inl (.inr f))⟩,OS.reb h.2 fun i f=>e i (.inr f)⟩
theorem Rb.f {b b':Nat} {c d:Ow}:Rb b b' c d->∀ i,d.F i->c.F i
 | .k,_,h=>h
 | .o,_,h=>h
 | .s,_,h=>h
 | .so,_,h=>h
inductive Reb (b b':Nat) (T L:List Ow):List Ow->List Ow->Prop
 | z:Reb b b' T L T L
 | s {c d:Ow} {M N:List Ow}:Rb b b' c d->Reb b b' T L M N->Reb b b' T L (c::M) (d::N)
theorem Reb.sub {b b':Nat} {T L:List Ow}:∀ {M N:List Ow},Reb b b' T L M N->∀ t,t∈T->t∈M
 | _,_,.z,_,h=>h
 | _,_,.s _ r,t,h=>List.mem_cons_of_mem _ (r.sub t h)
theorem Reb.sp {b b':Nat} {T L:List Ow} {w:World} (k:Sp L w):∀ {M N:List Ow},Reb b b' T L M N->Sp M w->(∀ c,c∈M->∀ i,c.F i->Of T i->b'<=i/\Of L i)->Sp N w/\∀ d,d∈N->(∃ c,c∈M/\∀ i,d.F i->c.F i/\Of T i)\/d∈L
 | _,_,.z,_,_=>⟨k,fun d hd=> .inr hd⟩
 | _,_,.s (c:=c) (d:=d) h r,hs,hd=>by
  obtain⟨a,e⟩:=r.sp k hs.2.2 fun c hc=>hd c (List.mem_cons_of_mem _ hc)
  have hT:∀ i,c.F i->Of T i:=fun i hi t ht=>hs.2.1 i hi t (r.sub t ht)
  refine⟨⟨h.p hs.1 fun i hi=>(hd c (List.mem_cons_self ..) i hi (hT i hi)).1,fun i hi e' he' hei=>?_,a⟩,fun d' hd'=>?_⟩
  ·rcases e e' he' with⟨c',hc',hf⟩|hL
   ·exact hs.2.1 i (h.f i hi) c' hc' (hf i hei).1
   ·exact(hd c (List.mem_cons_self ..) i (h.f i hi) (hT i (h.f i hi))).2 e' hL hei
  ·rcases List.mem_cons.1 hd' with rfl|hd'
   ·exact .inl ⟨c,List.mem_cons_self ..,fun i hi=>⟨h.f i hi,hT i (h.f i hi)⟩⟩
   ·rcases e d' hd' with⟨c',hc',hf⟩|hL
    ·exact .inl ⟨c',List.mem_cons_of_mem _ hc',hf⟩
    ·exact .inr hL
section
variable {w0 w w1 w' u:World} {L M N:List Ow} {g n k n' k':Nat} {t:TypeId} {cs cs':List Value} {C C':Option Addr} {v v':List Int} {S:World->Prop} {gs:List Nat}
theorem Hq.join (Z:Hq w0 L w) (H:Hq w M w1) (r:Reb w.heap.size w0.heap.size [] L M N:=by repeat constructor):Hq w0 N w1:=by
 have h:∀ c,c∈M->∀ i,c.F i->w0.heap.size<=i/\Of L i:=fun c hc i hi=>by
  have h1:=H.B c hc i hi
  exact⟨Nat.le_trans Z.m h1,fun d hd hdi=>by have:=Z.S.lt d hd i hdi;omega⟩
 obtain⟨a,e⟩:=r.sp (Z.b H.O).S H.S fun c hc i hi _=>h c hc i hi
 refine⟨a,fun d hd i hi=>?_,Z.O.trans (H.O.mono Z.m)⟩
 rcases e d hd with⟨c,hc,hf⟩|hL
 ·exact(h c hc i (hf i hi).1).1
 ·exact Z.B d hL i hi
theorem Hr.join (Z:Hq w0 L w) (H:Hr S u gs w M w1) (r:Reb w.heap.size w0.heap.size [] L M N:=by repeat constructor):Hr S u gs w0 N w1:=⟨Z.join H.H r,H.cl,H.s⟩
def StG (g:Nat) (C:Option Addr) (i:Nat):Prop:=i=g\/blk C=some i
abbrev qW (w:World) (g:Nat) (C:Option Addr):Ow:=qT (fun i=>i<w.heap.size/\¬StG g C i) (fun w'=>w.heap.size<=w'.heap.size/\∀ i,i<w.heap.size->¬StG g C i->w'.heap[i]?=w.heap[i]?) (fun w' h i e=>Nat.lt_of_lt_of_le e.1 h.1)
 (fun w' w'' h hs k=>⟨Nat.le_trans h.1 hs,fun i hi hn=>(k i ⟨hi,hn⟩ (Nat.lt_of_lt_of_le hi h.1)).trans (h.2 i hi hn)⟩)
def fI (w:World):World:= { w with heap:=#[] }
theorem pd (w:World):Below (fI w).heap.size (fI w) w:=⟨rfl,rfl,rfl,Nat.zero_le _,fun i hi=>absurd hi (Nat.not_lt_zero i)⟩
theorem Hq.st0 (hb:Blk w g t cs.toArray) (ho:OS w 0 C n k v) (ht:3≠t:=by decide):Hq (fI w) [qB g t cs,qO (fI w).heap.size C n k v,qW w g C] w:=by
 refine⟨⟨hb,fun i hi d hd hdi=>?_,ho,fun i hi d hd hdi=>?_,⟨Nat.le_refl _,fun _ _ _=>rfl⟩,fun i hi d hd=>(by cases hd),trivial⟩,fun c hc i hi=>Nat.zero_le _,pd w⟩
 ·have e:i=g:=hi;rcases List.mem_cons.1 hd with rfl|hd
  ·exact bf ho hb ht (e ▸ hdi)
  ·obtain rfl:d=qW w g C:=by simpa using hd
   exact hdi.2 (.inl e)
 ·obtain rfl:d=qW w g C:=by simpa using hd
  exact hdi.2 (.inr hi)
theorem Hq.upl {c d:Ow} (K:Hq (fI w) M w') (h:Has M (qW w g C):=by repeat constructor):UpL (StG g C) w w':=⟨K.O.os,K.O.tape,K.O.output,(K.get h).1,(K.get h).2⟩
theorem Hq.stp (H:Hq w0 (qB g t cs::qO w0.heap.size C n k v::L) w) (K:Hq (fI w) M w') (r:Reb (fI w).heap.size w0.heap.size [qW w g C] L M N:=by repeat constructor):Hq w0 N w':=by
 have U:UpL (StG g C) w w':=K.upl (c:=qW w g C) (d:=qW w g C) (by
  clear H;have:∀ t,t∈[qW w g C]->t∈M:=r.sub;have h:=this _ (List.mem_cons_self ..);clear this r K
  induction M with
  | nil=>cases h
  | cons c M ih =>
   rcases List.mem_cons.1 h with rfl|h
   ·exact .h0
   ·exact .t0 (ih h))
 have hG:∀ i,StG g C i->w0.heap.size<=i/\Of L i:=fun i hi=>by
  rcases hi with rfl|hi
  ·exact⟨H.B _ (List.mem_cons_self ..) _ rfl,fun d hd=>H.S.2.1 _ rfl d (List.mem_cons_of_mem _ hd)⟩
  ·exact⟨H.B (qO ..) (List.mem_cons_of_mem _ (List.mem_cons_self ..)) _ hi,H.S.2.2.2.1 _ hi⟩
 have h:∀ c,c∈M->∀ i,c.F i->Of [qW w g C] i->w0.heap.size<=i/\Of L i:=fun c _ i _ hi=>by
  by_cases hs:StG g C i
  ·exact hG i hs
  ·have hw:w.heap.size<=i:=Nat.le_of_not_lt fun hl=>hi _ (List.mem_cons_self ..) ⟨hl,hs⟩
   exact⟨Nat.le_trans H.m hw,fun d hd hdi=>by have:=H.S.lt d (List.mem_cons_of_mem _ (List.mem_cons_of_mem _ hd)) i hdi;omega⟩
 have hL:Sp L w':=H.S.2.2.2.2.au U.size fun c hc i hi hl=>U.block i hl fun hs=>(hG i hs).2 c hc hi
 obtain⟨a,e⟩:=r.sp hL K.S h;refine⟨a,fun d hd i hi=>?_,U.over H.O (fun i _ hi=>(hG i hi).1) H.m⟩
 rcases e d hd with⟨c,hc,hf⟩|hL
 ·exact(h c hc i (hf i hi).1 (hf i hi).2).1
 ·exact H.B d (List.mem_cons_of_mem _ (List.mem_cons_of_mem _ hL)) i hi
theorem Hr.stp (H:Hr S u gs w0 (qB g t cs::qO w0.heap.size C n k v::L) w) (K:Hq (fI w) M w') (hn:∀ i,i∈gs->¬StG g C i) (h:Has M (qW w g C):=by repeat constructor) (r:Reb (fI w).heap.size w0.heap.size [qW w g C] L M N:=by repeat constructor):Hr S u gs w0 N w' :=
 ⟨H.H.stp K r,H.cl,H.cl.up _ _ _ (K.upl (c:=qW w g C) (d:=qW w g C) h) hn H.s⟩
theorem Hq.nst {b i:Nat} {t':TypeId} {ds:List Value} (H:Hq w0 (qB g t cs::qO b C n k v::L) w) (h:Has L (qB i t' ds):=by repeat constructor):¬StG g C i:=fun e=>by
 rcases e with rfl|e
 ·exact H.S.2.1 _ rfl _ (List.mem_cons_of_mem _ h.mem) rfl
 ·exact H.S.2.2.2.1 i e _ h.mem rfl
theorem Hq.nel {b i:Nat} (H:Hq w0 (qB g t cs::qO b C n k v::L) w) (h:i<w0.heap.size):¬StG g C i:=fun e=>by
 rcases e with rfl|e
 ·exact Nat.not_lt.2 (H.B _ (List.mem_cons_self ..) _ rfl) h
 ·exact Nat.not_lt.2 (H.B (qO b C n k v) (List.mem_cons_of_mem _ (List.mem_cons_self ..)) _ e) h
theorem Hr.pP {c d:Ow} (Z:Hr S u gs w0 (c.and d::L) w):Hr S u gs w0 (c::L) w:=Z.re Hq.pP
theorem Elq.c {d:Ow} (h:∀ i,d.F i->i<u.heap.size) (E:Elq u w0 L):Elq u w0 (d::L):=⟨fun c hc i hi=>by
 rcases List.mem_cons.1 hc with rfl|hc
 ·exact h i hi
 ·exact E.lt c hc i hi,E.m⟩
theorem Elq.nil (E:Elq u w0 L) (w:World):Elq u (fI w) L:=⟨E.lt,Nat.zero_le _⟩
theorem Hq.kb {b B:Nat} {t':TypeId} {ds:Array Value} (K:Hq (fI w) M w') (hb:Blk w g t cs.toArray) (ho:OS w b C n k v) (h:Has M (qW w g C):=by repeat constructor) (h1:t'≠t:=by decide) (h2:3≠t':=by decide):KB B (.cells ds t') w w':=by
 have U:=K.upl (c:=qW w g C) (d:=qW w g C) h;refine⟨U.size,fun i _ hl e=>(U.block i hl fun hs=>?_).trans e⟩
 rcases hs with rfl|hs
 ·unfold Blk at hb;rw[hb] at e;injection e with e;injection e with _ e
  exact h1 e.symm
 ·exact bf ho (show Blk w i t' ds from e) h2 hs
end
section
variable {X:TypeId->Bool} {P:Program} {ops:Array Oper} {C:World->Prop} {Q:Act->World->Prop} {w w' u w0:World} {a:Act} {o:Oper} {nl:Bool} {rest:List Oper} {f d k base:Nat} {Z:Obj} {S:World->Prop} {gs:List Nat} {L:List Ow}
theorem CC (h:∀ w',Below w.heap.size w w'->∀ K:KS,(∀ a' w'',C w''->KB base Z w' w''->a_ X P ops C nl Q f d Z base (k+1) rest a' w''->K.k a' w'')->Oper.gives P o a w' (fun v w''=>K.k (a.put o.dst v) w'')) (hk:k≠f:=by decide) (hw:Region.wanted o (yielded ops a.tmps)=true:=by rfl) (hc:bK X o=false:=by rfl):a_ X P ops C nl Q f d Z base k (o::rest) a w:=qU hk hw hc fun w' hb K hK=>h w' hb ⟨K⟩ hK
theorem CD (Z':Hr S u gs w0 L w) (hb:KB base Z w' w) {R K:Act->World->Prop} (hK:∀ a' w'',(∃ x:Wd S,w''=x.w)->KB base Z w' w''->R a' w''->K a' w'') {f:Value->Act} {v:Value} (h:R (f v) w):∃ v',Ending.returned v= .returned v'/\K (f v') w:=⟨v,rfl,hK _ _ ⟨⟨w,Z'.s⟩,rfl⟩ hb h⟩
end
section
variable {P:Program} {id:Nat} {Q:Exit->Act->World->Prop} {a:Act} {l:List Oper} {u w0:World} {L:List Ow}
theorem Hq.BM (H:Hq w0 L u) (gs:List Nat) (X:TypeId->Bool) (nl:Bool) (h:∀ S w,Nonempty (Wd S)->Hr S u gs w0 L w->bx X P l.toArray (fun w'=>∃ x:Wd S,w'=x.w) nl (fun a' w'=>Q .normal a' w') l a w)
  (hgs:∀ i,i∈gs->i<u.heap.size:=by repeat (first|exact all_nil|refine all_cons (by have C:=H.C;simp only[aC0,aC1,aN0,aN1,fv,fz,FR,FU,DB,DA,cf0,cf1,Nat.zero_add,Nat.add_zero,Nat.reduceAdd,true_and,and_true,and_assoc] at C;omega) ?_)) (hm:P.follows .mixedOrders=true:=by kernel_rfl) (hB:rT X .any l.toArray=true:=by kernel_rfl) (hN:nl=true->kF .any l.toArray=true:=by intro _;kernel_rfl):(Code.region id l.toArray true).wp P Q a u:=H.lxG gs X nl h hgs hm hB hN
theorem Hq.lFG {f d:Nat} {Z:Obj} {of:Oper} (H:Hq w0 L u) (gs:List Nat) (X:TypeId->Bool) (nl:Bool) (_:TgF gs f d Z) (h:∀ S w,Nonempty (Wd S)->Hr S u gs w0 L w->a_ X P l.toArray (fun w'=>∃ x:Wd S,w'=x.w) nl (fun a' w'=>Q .normal a' w') f d Z u.heap.size 0 l a w)
  (hgs:∀ i,i∈gs->i<u.heap.size:=by repeat (first|exact all_nil|refine all_cons (by have C:=H.C;simp only[aC0,aC1,aN0,aN1,fv,fz,FR,FU,DB,DA,cf0,cf1,Nat.zero_add,Nat.add_zero,Nat.reduceAdd,true_and,and_true,and_assoc] at C;omega) ?_)) (hm:P.follows .mixedOrders=true:=by kernel_rfl) (hB:xY X .any l.toArray f d=true:=by kernel_rfl) (hfL:(f == cW l.toArray nl)=false:=by kernel_rfl) (hN:nl=true->kF .any l.toArray=true:=by intro _;kernel_rfl) (hof:l[f]?=some of:=by rfl) (hfa:FA X P of d Z:=by exact⟨rfl,rfl,rfl,fun a w=>by simp[go_sem,ptr]⟩):(Code.region id l.toArray true).wp P Q a u:=by
 obtain⟨S,HS⟩:=clq u gs hgs;have hb:Below u.heap.size u u.drew:=Qb.drew
 exact gK X nl S f d of Z hm hB hN hfL hof hfa (HS.kp _ hb) HS.al fun hne=>h S _ hne ⟨H.b hb,HS,HS.kp _ hb⟩
end
theorem fU {P Q T0:Prop} (c:T0) (k:Q) (h:T0->Wr Q->P:=by
  intro c q;intros
  repeat (first|(refine lE ?_;intro K hK;go_big_quiet_op;go_big_quiet_on)|refine lG ?_)
  refine CC fun w1 hb K hK=>?_
  unfold Oper.gives
  go_simp
  refine(c w1 hb).mono ?_;replace H:=H.b hb;clear hb c;intro e w' hp
  revert w1 H K hK e w' hp
  exact q.o):P:=h c ⟨k⟩
theorem fKU {P Q:Prop} (k:Q) (h:Wr Q->P:=by
  intro q;intros;refine CD H hb hK ?_
  repeat (revert ‹Act->World->Prop›;have zz:=q;clear zz)
  exact q.o):P:=h ⟨k⟩
def jC (p:Mx×Mx) (s:Int) (N g:Nat) (C:Option Addr) (n:Nat) (w:World) (e:Ending) (w':World):Prop:=∃ A c B d C' n' k' v',e= .returned (SMV p.1.r p.1.c A p.1.v.length c p.2.r p.2.c B p.2.v.length d)/\(n+1<=n'/\n'<=n+N) /\
 Hq (fI w) [qB g 199 [.int .i64 s,.slice C' n' k'],qO (fI w).heap.size C' n' k' v',qS (fI w).heap.size A c B d p,qW w g C] w'
end
section
attribute [local go_sem] af ah ae
theorem vV {xs:List Int} {n:Nat} (hn:1<=n/\n<=1000) {A:Option Addr} {c:Nat} (w:World) (hx:SI w A n xs):Calls prog 114 #[.slice A n c] w (vy n xs w):=by
 obtain⟨b,off,rfl,hlt,-⟩:=hx.2 (by omega)
 obtain⟨u,hu⟩:∃ u,u=w.alloc (.cells #[] 3):=⟨_,rfl⟩;have O:Below w.heap.size w u:=Below.cast hu (Qb.alloc Ql _);have HX:=Qh (SI.below hx O);have HO:Hid (OS u w.heap.size (some ⟨w.heap.size,0,none⟩) 0 0 []):=OS.cast hu (mT w Ql);have HU:=Qh O;have HUE:=Qh hu;clear hx O hu;have heq:∀ W:World,(binOp .eql 35 (.slice (some ⟨b,off,none⟩) n c) (.slice none 0 0)).run prog W= .ok (.bool false) W:=fun W=>Lib.run_eql_slice_nil W _ _ _ _ _ _ _ rfl
 go_enter func114,ntmps114
 go_wp2_with (at_builtin;(try rw[<-HUE.out]);refine fH rfl _ _ rfl rfl rfl HO.out HX.out (by omega) (by omega) HU.out.size ?_)
 intro C k w2 hos hon hc;have O2:Below w.heap.size w w2:=HU.out.trans (bJ.toBelow hon (B:=w.heap.size) (fun g hg=>by injection hg with hg;subst hg;exact Nat.le_refl _) HU.out.size)
 (try simp only[List.nil_append,Nat.zero_add] at hos)
 clear hon hc HX HO HU HUE;go_wp2
 go_ret
 exact⟨C,k,by simp,hos,O2⟩
theorem ep {m:Mx} (h:mvB m=true) {v:Value} (w:World) (hv:RM w v m):Calls prog 63 #[v] w (bD m w):=by
 obtain⟨A,c,rfl,h1,h2,h3⟩:=hv;have HX:=Qh h1;have HL:Hid (1<=m.v.length/\m.v.length<=1000):=by have:=dy h;exact⟨this.1,by have:=this.2;omega⟩
 clear h h1 h2 h3
 go_enter func63,ntmps63
 go_wp2_with fail
 obtain⟨uw1,hu⟩:∃ u,u=((w.alloc (.cells #[.int .i64 m.r,.int .i64 m.c,.slice A m.v.length c] 37)).alloc (.cells #[.int .i64 0,.int .i64 0,.slice none 0 0] 37)):=⟨_,rfl⟩;rw[<-hu];have B1:Blk uw1 (w.heap.size) 37 #[.int .i64 m.r,.int .i64 m.c,.slice A m.v.length c]:=Blk.cast hu ((Blk.iA (by first|omega|(simp;done)|(simp;omega))).alloc _)
 have B2:Blk uw1 (w.heap.size+1) 37 #[.int .i64 0,.int .i64 0,.slice none 0 0]:=Blk.cast hu (Blk.iA (by first|omega|(simp;done)|(simp;omega)))
 have O:Below w.heap.size w uw1:=Below.cast hu ((Qb.alloc (by first|omega|(simp;done)|(simp;omega)) _).alloc (by first|omega|(simp;done)|(simp;omega)) _)
 have mw:=O.size;clear hu;obtain⟨S,KP,KQ,KA,G1⟩:=uf B1;obtain⟨g1_0,g1_1,g1_2⟩:=Cs.f3 G1;refine jB S (by kernel_rfl) (by kernel_rfl) (KP.out _ Qb.drew) ?_
 intro hne;have hb:=(Below.refl uw1.heap.size uw1).drew;obtain⟨w2,hd⟩:∃ u,u=uw1.drew:=⟨_,rfl⟩;rw[<-hd] at hb ⊢
 (try simp only[Nat.add_assoc,Nat.reduceAdd])
 clear hd;have X:=Qh hb;replace B1:=B1.aa hb;replace B2:=B2.aa hb;replace O:=O.trans (hb.mono mw);replace mw:=O.size;clear hb
 repeat (first|(refine aF (by rfl) (by rfl) ?_;intro K hK;go_big_quiet_op;go_big_quiet_on)|(refine aG (by rfl) ?_))
 refine bj (by rfl) (by rfl) (fun K hK=>?_)
 unfold Oper.gives
 go_simp
 refine(vV HL.out w2 (SI.below HX.out O)).mono ?_;rintro e w3 ⟨P,cP,rfl,hos,hb⟩;replace X:=Qh (X.out.trans (hb.mono X.out.size));refine⟨_,rfl,hK _ _ ⟨⟨_,KP.out _ X.out⟩,rfl⟩ ?_⟩;clear hK K;have FP:=hos.mono (base':=w.heap.size) mw;replace B1:=B1.aa hb;replace B2:=B2.aa hb;replace O:=O.trans (hb.mono mw);replace mw:=O.size;clear hos;clear hb
 repeat (first|(refine aF (by rfl) (by rfl) ?_;intro K hK;go_big_quiet_op;go_big_quiet_on)|(refine aG (by rfl) ?_))
 obtain⟨z2,c2_0,f2_0,c2_1,f2_1,c2_2,f2_2⟩:=B2.f3;refine bj (by rfl) (by rfl) (fun K hK=>?_)
 unfold Oper.gives
 go_simp
 have q1:w.heap.size+1≠w.heap.size:=by omega
 have hSq1:S (((w3.setCell ⟨w.heap.size+1,0,none⟩ (.int .i64 m.r)).setCell ⟨w.heap.size+1,1,none⟩ (.int .i64 m.c)).setCell ⟨w.heap.size+1,2,none⟩ (.slice P m.v.length cP)):=(KQ _ ⟨w.heap.size+1,2,none⟩ _ q1 (KQ _ ⟨w.heap.size+1,1,none⟩ _ q1 (KQ _ ⟨w.heap.size+1,0,none⟩ _ q1 (KP.out _ X.out))));refine hK _ _ ⟨⟨_,hSq1⟩,rfl⟩ ?_;clear hK K;clear z2 c2_0 f2_0 c2_1 f2_1 c2_2 f2_2
 repeat (first|(refine aF (by rfl) (by rfl) ?_;intro K hK;go_big_quiet_op;go_big_quiet_on)|(refine aG (by rfl) ?_))
 refine aI ?_;clear hne KP KQ KA X g1_0 g1_1 g1_2 G1;clear q1 hSq1;obtain⟨z1,c1_0,f1_0,c1_1,f1_1,c1_2,f1_2⟩:=B1.f3;obtain⟨z2,c2_0,f2_0,c2_1,f2_1,c2_2,f2_2⟩:=B2.f3;go_wp2;have q2:w.heap.size<=w.heap.size+1:=by omega
 exact bodyPost_ret (v:=MV m.r m.c P m.v.length cP) (by simp[results,results63,go_sem,z1,c1_0,f1_0,c1_1,f1_1,c1_2,f1_2,z2,c2_0,f2_0,c2_1,f2_1,c2_2,f2_2,(by omega:¬w.heap.size=w.heap.size+1),(by omega:¬w.heap.size+1=w.heap.size)]) rfl ⟨P,cP,rfl,(OS.Ep FP B2 (by decide) (aZ.refl _ _).s1.s1.s1),(((O.setCell q2 _).setCell q2 _).setCell q2 _)⟩
end
section
attribute [local go_sem] af ah ae
theorem RI.raw {α:Type} {E:Elt α} {w:World} {A:Option Addr} {n cap:Nat} {xs:List α} {F:List Nat} (h:RI E w A n cap xs F):∃ css F',dJ E w css xs F'/\(∀ g,g∈F'->g∈F)/\(0<n->∃ b off,A=some ⟨b,off,none⟩/\b<w.heap.size/\∀ j u,css.flatten[j]?=some u->w.cell? ⟨b,off+j,none⟩=some u):=by
 obtain⟨h1,h2,h3,h4|⟨b,off,css,F',rfl,hb,rfl,he,hc⟩⟩:=h
 ·obtain rfl:=h4.1;obtain rfl:xs=[]:=List.eq_nil_of_length_eq_zero h1
  exact⟨[],[],rfl,(fun g hg=>by cases hg),fun h=>absurd h (by omega)⟩
 ·refine⟨css,F',he,fun g hg=>List.mem_cons_of_mem _ hg,fun _=>⟨b,off,rfl,hb,fun j u hj=>?_⟩⟩
  have hl:=he.lens;have hs:0<E.s:=by
   rcases Nat.eq_zero_or_pos E.s with h0|h0
   ·have:css.flatten.length=0:=by rw[dS he,h0,Nat.mul_zero]
    rw[List.eq_nil_of_length_eq_zero this] at hj
    cases hj
   ·exact h0
  have hjl:=(List.getElem?_eq_some_iff.1 hj).1;rw[dS he,<-he.length] at hjl;have hi:j/E.s<css.length:=(Nat.div_lt_iff_lt_mul hs).2 hjl;have hg:=iG (rest:=[]) hl (j/E.s) css[j/E.s] (List.getElem?_eq_getElem hi) (j%E.s) (Nat.mod_lt _ hs);have hc2:=hc (j/E.s) css[j/E.s] (List.getElem?_eq_getElem hi) (j%E.s) (Nat.mod_lt _ hs);rw[<-hg] at hc2;rw[List.append_nil] at hc2;rw[show j/E.s*E.s+j%E.s=j by rw[Nat.mul_comm];exact Nat.div_add_mod j E.s] at hc2
  rw[hc2,hj]
def One {α:Type} (E:Elt α):Prop:=∀ w cs x F,E.P w cs x F->∀ u,u∈cs->u.oneCell'=true
theorem AS:One smE:=by
 rintro w cs p F ⟨A,c,B,d,F1,F2,rfl,_⟩ u hu
 simp at hu;rcases hu with rfl|rfl|rfl|rfl|rfl|rfl <;> rfl
theorem Gx {α:Type} (E:Elt α):One (kE E):=by
 rintro w cs p F ⟨A,c,rfl,_⟩ u hu
 simp at hu;rcases hu with rfl|rfl <;> rfl
theorem dJ.one {α:Type} {E:Elt α} (h:One E) {w:World}:∀ {css:List (List Value)} {xs:List α} {F:List Nat},dJ E w css xs F->∀ u,u∈css.flatten->u.oneCell'=true:=by
 intro css xs F he u hu;obtain⟨cs,hcs,hu⟩:=List.mem_flatten.1 hu;obtain⟨i,hi,rfl⟩:=List.mem_iff_getElem.1 hcs;have hx:i<xs.length:=by rw[<-he.length];exact hi
 obtain⟨cs',F',h1,_,h3⟩:=he.at i xs[i] (List.getElem?_eq_getElem hx);rw[List.getElem?_eq_getElem hi] at h1;injection h1 with h1;rw[<-h1] at h3
 exact h _ _ _ _ h3 u hu
def Bm {α:Type} (E:Elt α) (T:TypeId) (n:Nat) (xs:List α) (w0 w:World) (e:Ending) (w':World):Prop:=∃ A c css F,e= .returned (.slice A n c)/\VO w' w.heap.size T E.s A n c css.flatten/\dJ E w0 css xs F/\Below w.heap.size w w'
theorem uJ {xs:List _} {n cap:Nat} {A:Option Addr} {F:List Nat} (w0 w:World) (hx:RI (kE smE) w0 A n cap xs F) (hbw:Below w0.heap.size w0 w) (hn:n<=1000):Calls prog 80 #[.slice A n cap] w (Bm (kE smE) 99 n xs w0 w):=by
 obtain⟨i0,hi,hz0,hz1,hz2⟩:=info_parts nJ;have heq:∀ W:World,(binOp .eql 23 (.slice A n cap) (.slice none 0 0)).run prog W= .ok (.bool A.isNone) W:=fun W=>Lib.run_eql_slice_nil W _ _ _ _ _ _ _ rfl
 obtain⟨css,F',he,-,hr⟩:=hx.raw;have hlen:=dS he;rw[hx.len] at hlen
 by_cases n0:n=0
 ·subst n0;have hc0:css.flatten=[]:=List.eq_nil_of_length_eq_zero (by rw[hlen,Nat.zero_mul])
  clear hr hx hlen hbw
  cases A with
  | none =>
   go_enter func80,ntmps80
   go_wp2
   go_ret
   exact⟨none,0,css,F',rfl,by rw[hc0];exact VO.nil _ _ _ _,he,Below.refl _ _⟩
  | some a =>
   go_enter func80,ntmps80
   go_wp2
   go_ret
   exact⟨_,_,css,F',rfl,by rw[hc0];exact VO.kG w Ql _ _,he,Qb.alloc Ql _⟩
 ·obtain⟨b,off,rfl,hb,hc⟩:=hr (by omega)
  obtain⟨u,hu⟩:∃ u,u=w.alloc (.cells #[] 99):=⟨_,rfl⟩;have O:Below w.heap.size w u:=Below.cast hu (Qb.alloc Ql _);have HO:Hid (VO u w.heap.size 99 2 (some ⟨w.heap.size,0,none⟩) 0 0 []):=by rw[hu];exact VO.kG w Ql _ _
  have HC:Hid (∀ j v,css.flatten[j]?=some v->u.cell? ((⟨b,off,none⟩:Addr).add j)=some v):=fun j v hv=>by
   have hadd:(⟨b,off,none⟩:Addr).add j=⟨b,off+j,none⟩:=by unfold Addr.add;split <;> simp_all
   rw[hadd]
   exact((hbw.trans (O.mono hbw.size)).cell (p:=⟨b,off+j,none⟩) hb).trans (hc j v hv)
  have H1:=Qh (he.one (Gx smE));have HE:=Qh he;have HL:Hid (css.flatten.length=n*2):=hlen;have HU:=Qh O;have HUE:=Qh hu;have n1:0<n:=by omega
  have zb:b<u.heap.size:=by have:=hbw.size;have:=O.size;omega
  have H2:Hid (0+n<=maxLen):=by unfold maxLen;show 0+n<=_;omega
  have H3:Hid ((0+n)*32<=140737488355328):=by show (0+n)*32<=_;omega
  clear hc hx hlen he O hu hbw hr
  go_enter func80,ntmps80
  go_wp2_with (at_builtin;(try rw[<-HUE.out]);refine wpList_append_lies u rfl _ _ _ (by rfl) w.heap.size 99 i0 (.agg #[.int .i64 0,.slice none 0 0]) 2 32 underlying23 hi hz0 hz1 hz2 rfl (by omega) (.slice (some ⟨w.heap.size,0,none⟩) 0 0) 0 [] (by rfl) HO.out ⟨b,off,none⟩ n cap css.flatten (by rfl) HL.out HC.out H1.out n1 H2.out H3.out HU.out.size u.heap.size rfl ?_)
  intro g c w2 hown hgr hat hlt;have O2:Below w.heap.size w w2:=HU.out.trans (bJ.toBelow (A:=some ⟨w.heap.size,0,none⟩) (by unfold bJ;rw[<-aO (some ⟨w.heap.size,0,none⟩) 0 0];exact hgr) (B:=w.heap.size) (fun g hg=>by injection hg with hg;subst hg;exact Nat.le_refl _) HU.out.size)
  have HW:Hid (VO w2 w.heap.size 99 2 (some ⟨g,0,none⟩) n c css.flatten):=by
   have h:=hown
   (try simp only[List.nil_append,Nat.zero_add] at h)
   exact h
  clear hown hgr hat hlt HO HC H1 HU HUE heq;go_wp2
  go_ret
  exact⟨some ⟨g,0,none⟩,c,css,F',by simp,HW.out,HE.out,O2⟩
theorem uK {xs:List _} {n cap:Nat} {A:Option Addr} {F:List Nat} (w0 w:World) (hx:RI (smE) w0 A n cap xs F) (hbw:Below w0.heap.size w0 w) (hn:n<=1000):Calls prog 81 #[.slice A n cap] w (Bm (smE) 82 n xs w0 w):=by
 obtain⟨i0,hi,hz0,hz1,hz2⟩:=info_parts lq;have heq:∀ W:World,(binOp .eql 97 (.slice A n cap) (.slice none 0 0)).run prog W= .ok (.bool A.isNone) W:=fun W=>Lib.run_eql_slice_nil W _ _ _ _ _ _ _ rfl
 obtain⟨css,F',he,-,hr⟩:=hx.raw;have hlen:=dS he;rw[hx.len] at hlen
 by_cases n0:n=0
 ·subst n0;have hc0:css.flatten=[]:=List.eq_nil_of_length_eq_zero (by rw[hlen,Nat.zero_mul])
  clear hr hx hlen hbw
  cases A with
  | none =>
   go_enter func81,ntmps81
   go_wp2
   go_ret
   exact⟨none,0,css,F',rfl,by rw[hc0];exact VO.nil _ _ _ _,he,Below.refl _ _⟩
  | some a =>
   go_enter func81,ntmps81
   go_wp2
   go_ret
   exact⟨_,_,css,F',rfl,by rw[hc0];exact VO.kG w Ql _ _,he,Qb.alloc Ql _⟩
 ·obtain⟨b,off,rfl,hb,hc⟩:=hr (by omega)
  obtain⟨u,hu⟩:∃ u,u=w.alloc (.cells #[] 82):=⟨_,rfl⟩;have O:Below w.heap.size w u:=Below.cast hu (Qb.alloc Ql _);have HO:Hid (VO u w.heap.size 82 6 (some ⟨w.heap.size,0,none⟩) 0 0 []):=by rw[hu];exact VO.kG w Ql _ _
  have HC:Hid (∀ j v,css.flatten[j]?=some v->u.cell? ((⟨b,off,none⟩:Addr).add j)=some v):=fun j v hv=>by
   have hadd:(⟨b,off,none⟩:Addr).add j=⟨b,off+j,none⟩:=by unfold Addr.add;split <;> simp_all
   rw[hadd]
   exact((hbw.trans (O.mono hbw.size)).cell (p:=⟨b,off+j,none⟩) hb).trans (hc j v hv)
  have H1:=Qh (he.one AS);have HE:=Qh he;have HL:Hid (css.flatten.length=n*6):=hlen;have HU:=Qh O;have HUE:=Qh hu;have n1:0<n:=by omega
  have zb:b<u.heap.size:=by have:=hbw.size;have:=O.size;omega
  have H2:Hid (0+n<=maxLen):=by unfold maxLen;show 0+n<=_;omega
  have H3:Hid ((0+n)*80<=140737488355328):=by show (0+n)*80<=_;omega
  clear hc hx hlen he O hu hbw hr
  go_enter func81,ntmps81
  go_wp2_with (at_builtin;(try rw[<-HUE.out]);refine wpList_append_lies u rfl _ _ _ (by rfl) w.heap.size 82 i0 (.agg #[.int .i64 0,.int .i64 0,.slice none 0 0,.int .i64 0,.int .i64 0,.slice none 0 0]) 6 80 underlying97 hi hz0 hz1 hz2 rfl (by omega) (.slice (some ⟨w.heap.size,0,none⟩) 0 0) 0 [] (by rfl) HO.out ⟨b,off,none⟩ n cap css.flatten (by rfl) HL.out HC.out H1.out n1 H2.out H3.out HU.out.size u.heap.size rfl ?_)
  intro g c w2 hown hgr hat hlt;have O2:Below w.heap.size w w2:=HU.out.trans (bJ.toBelow (A:=some ⟨w.heap.size,0,none⟩) (by unfold bJ;rw[<-aO (some ⟨w.heap.size,0,none⟩) 0 0];exact hgr) (B:=w.heap.size) (fun g hg=>by injection hg with hg;subst hg;exact Nat.le_refl _) HU.out.size)
  have HW:Hid (VO w2 w.heap.size 82 6 (some ⟨g,0,none⟩) n c css.flatten):=by
   have h:=hown
   (try simp only[List.nil_append,Nat.zero_add] at h)
   exact h
  clear hown hgr hat hlt HO HC H1 HU HUE heq;go_wp2
  go_ret
  exact⟨some ⟨g,0,none⟩,c,css,F',by simp,HW.out,HE.out,O2⟩
end
section
attribute [local go_sem] af ah ae
theorem dD {a b:Mx} (h:az a b=true) (A B:Option Addr) (p q:Nat) (w:World) (hx:SI w A a.v.length a.v) (hy:SI w B b.v.length b.v) :
  Calls prog 169 #[SMV a.r a.c A a.v.length p b.r b.c B b.v.length q] w fun e w'=>e= .returned (.bool true)/\Below w.heap.size w w':=by
 obtain⟨ha,hb,hr,hc⟩:=i_ h;have HA:=Qh ha;have HB:=Qh hb;have HS:Hid (bS a b=true):=py h;have HX:=Qh hx;have HY:=Qh hy;clear h ha hb hr hc hx hy
 go_enter func169,ntmps169
 go_wp2_with fail
 obtain⟨u1,hu⟩:∃ u,u=(w.alloc (.cells #[.int .i64 a.r,.int .i64 a.c,.slice A a.v.length p,.int .i64 b.r,.int .i64 b.c,.slice B b.v.length q] 82)):=⟨_,rfl⟩;rw[<-hu];have B1:Blk u1 (w.heap.size) 82 #[.int .i64 a.r,.int .i64 a.c,.slice A a.v.length p,.int .i64 b.r,.int .i64 b.c,.slice B b.v.length q]:=Blk.cast hu (Blk.iA (by first|omega|(simp;done)|(simp;omega)))
 have O:Below w.heap.size w u1:=Below.cast hu (Qb.alloc (by first|omega|(simp;done)|(simp;omega)) _)
 have mw:=O.size;clear hu;refine(bP HA.out u1 (SI.below HX.out O)).mono ?_;rintro e w2 ⟨rfl,hb⟩;replace B1:=B1.aa hb;replace O:=O.trans (hb.mono mw);replace mw:=O.size;clear hb;obtain⟨z1,c1_0,f1_0,c1_1,f1_1,c1_2,f1_2,c1_3,f1_3,c1_4,f1_4,c1_5,f1_5⟩:=B1.f6
 go_wp2_with fail
 refine(bP HB.out w2 (SI.below HY.out O)).mono ?_;rintro e w3 ⟨rfl,hb⟩;replace B1:=B1.aa hb;replace O:=O.trans (hb.mono mw);replace mw:=O.size;clear z1 c1_0 f1_0 c1_1 f1_1 c1_2 f1_2 c1_3 f1_3 c1_4 f1_4 c1_5 f1_5;clear hb;obtain⟨z1,c1_0,f1_0,c1_1,f1_1,c1_2,f1_2,c1_3,f1_3,c1_4,f1_4,c1_5,f1_5⟩:=B1.f6
 go_wp2_with fail
 refine(gg HS.out w3).mono ?_;rintro e w4 ⟨rfl,hb⟩;replace B1:=B1.aa hb;replace O:=O.trans (hb.mono mw);replace mw:=O.size;clear z1 c1_0 f1_0 c1_1 f1_1 c1_2 f1_2 c1_3 f1_3 c1_4 f1_4 c1_5 f1_5;clear hb;obtain⟨z1,c1_0,f1_0,c1_1,f1_1,c1_2,f1_2,c1_3,f1_3,c1_4,f1_4,c1_5,f1_5⟩:=B1.f6;go_wp2
 go_ret
 exact⟨rfl,O⟩
theorem iv {a b c d:Mx} (h1:az a b=true) (h2:az c d=true) (h3:az a c=true) (A B C D:Option Addr) (p q r s:Nat) (w:World) (ha:SI w A a.v.length a.v) (hb:SI w B b.v.length b.v) (hc:SI w C c.v.length c.v) (hd:SI w D d.v.length d.v) :
  Calls prog 213 #[SMV a.r a.c A a.v.length p b.r b.c B b.v.length q,SMV c.r c.c C c.v.length r d.r d.c D d.v.length s] w (jW (jX (a,b) (c,d)) w):=by
 have la:a.v.length<=25:=(bt h1).2.2;have lb:b.v.length<=25:=(ee h1).2;have lc:c.v.length<=25:=(bt h2).2.2;have ld:d.v.length<=25:=(ee h2).2;replace h3:bS a c=true:=py h3;have HA:=Qh ha;have HB:=Qh hb;have HC:=Qh hc;have HD:=Qh hd;have H1:=Qh h1;have H2:=Qh h2;have H3:=Qh h3;clear ha hb hc hd h1 h2 h3
 go_enter func213,ntmps213
 go_wp2_with fail
 obtain⟨u1,hu⟩:∃ u,u=(((w.alloc (.cells #[.int .i64 a.r,.int .i64 a.c,.slice A a.v.length p,.int .i64 b.r,.int .i64 b.c,.slice B b.v.length q] 82)).alloc (.cells #[.int .i64 c.r,.int .i64 c.c,.slice C c.v.length r,.int .i64 d.r,.int .i64 d.c,.slice D d.v.length s] 82)).alloc (.cells #[.int .i64 0,.int .i64 0,.slice none 0 0,.int .i64 0,.int .i64 0,.slice none 0 0] 82)):=⟨_,rfl⟩;rw[<-hu]
 (try simp only[Nat.add_assoc,Nat.reduceAdd])
 have B1:Blk u1 (w.heap.size) 82 #[.int .i64 a.r,.int .i64 a.c,.slice A a.v.length p,.int .i64 b.r,.int .i64 b.c,.slice B b.v.length q]:=Blk.cast hu (((Blk.iA (by first|omega|(simp;done)|(simp;omega))).alloc _).alloc _)
 have B2:Blk u1 (w.heap.size+1) 82 #[.int .i64 c.r,.int .i64 c.c,.slice C c.v.length r,.int .i64 d.r,.int .i64 d.c,.slice D d.v.length s]:=Blk.cast hu ((Blk.iA (by first|omega|(simp;done)|(simp;omega))).alloc _)
 have B3:Blk u1 (w.heap.size+2) 82 #[.int .i64 0,.int .i64 0,.slice none 0 0,.int .i64 0,.int .i64 0,.slice none 0 0]:=Blk.cast hu (Blk.iA (by first|omega|(simp;done)|(simp;omega)))
 have O:Below w.heap.size w u1:=Below.cast hu (((Qb.alloc (by first|omega|(simp;done)|(simp;omega)) _).alloc (by first|omega|(simp;done)|(simp;omega)) _).alloc (by first|omega|(simp;done)|(simp;omega)) _)
 have mw:=O.size;clear hu;refine(dD H1.out A B p q u1 (SI.below HA.out O) (SI.below HB.out O)).mono ?_;rintro e w2 ⟨rfl,hb⟩;replace B1:=B1.aa hb;replace B2:=B2.aa hb;replace B3:=B3.aa hb;replace O:=O.trans (hb.mono mw);replace mw:=O.size;clear hb;obtain⟨z1,c1_0,f1_0,c1_1,f1_1,c1_2,f1_2,c1_3,f1_3,c1_4,f1_4,c1_5,f1_5⟩:=B1.f6;obtain⟨z2,c2_0,f2_0,c2_1,f2_1,c2_2,f2_2,c2_3,f2_3,c2_4,f2_4,c2_5,f2_5⟩:=B2.f6;obtain⟨z3,c3_0,f3_0,c3_1,f3_1,c3_2,f3_2,c3_3,f3_3,c3_4,f3_4,c3_5,f3_5⟩:=B3.f6
 go_wp2_with fail
 refine(dD H2.out C D r s w2 (SI.below HC.out O) (SI.below HD.out O)).mono ?_;rintro e w3 ⟨rfl,hb⟩;replace B1:=B1.aa hb;replace B2:=B2.aa hb;replace B3:=B3.aa hb;replace O:=O.trans (hb.mono mw);replace mw:=O.size;clear z1 c1_0 f1_0 c1_1 f1_1 c1_2 f1_2 c1_3 f1_3 c1_4 f1_4 c1_5 f1_5 z2 c2_0 f2_0 c2_1 f2_1 c2_2 f2_2 c2_3 f2_3 c2_4 f2_4 c2_5 f2_5 z3 c3_0 f3_0 c3_1 f3_1 c3_2 f3_2 c3_3 f3_3 c3_4 f3_4 c3_5 f3_5;clear hb;obtain⟨z1,c1_0,f1_0,c1_1,f1_1,c1_2,f1_2,c1_3,f1_3,c1_4,f1_4,c1_5,f1_5⟩:=B1.f6;obtain⟨z2,c2_0,f2_0,c2_1,f2_1,c2_2,f2_2,c2_3,f2_3,c2_4,f2_4,c2_5,f2_5⟩:=B2.f6;obtain⟨z3,c3_0,f3_0,c3_1,f3_1,c3_2,f3_2,c3_3,f3_3,c3_4,f3_4,c3_5,f3_5⟩:=B3.f6
 go_wp2_with fail
 refine(gg H3.out w3).mono ?_;rintro e w4 ⟨rfl,hb⟩;replace B1:=B1.aa hb;replace B2:=B2.aa hb;replace B3:=B3.aa hb;replace O:=O.trans (hb.mono mw);replace mw:=O.size;clear z1 c1_0 f1_0 c1_1 f1_1 c1_2 f1_2 c1_3 f1_3 c1_4 f1_4 c1_5 f1_5 z2 c2_0 f2_0 c2_1 f2_1 c2_2 f2_2 c2_3 f2_3 c2_4 f2_4 c2_5 f2_5 z3 c3_0 f3_0 c3_1 f3_1 c3_2 f3_2 c3_3 f3_3 c3_4 f3_4 c3_5 f3_5;clear hb;obtain⟨z1,c1_0,f1_0,c1_1,f1_1,c1_2,f1_2,c1_3,f1_3,c1_4,f1_4,c1_5,f1_5⟩:=B1.f6;obtain⟨z2,c2_0,f2_0,c2_1,f2_1,c2_2,f2_2,c2_3,f2_3,c2_4,f2_4,c2_5,f2_5⟩:=B2.f6;obtain⟨z3,c3_0,f3_0,c3_1,f3_1,c3_2,f3_2,c3_3,f3_3,c3_4,f3_4,c3_5,f3_5⟩:=B3.f6
 go_wp2_with fail
 clear z1 c1_0 f1_0 c1_1 f1_1 c1_2 f1_2 c1_3 f1_3 c1_4 f1_4 c1_5 f1_5 z2 c2_0 f2_0 c2_1 f2_1 c2_2 f2_2 c2_3 f2_3 c2_4 f2_4 c2_5 f2_5 z3 c3_0 f3_0 c3_1 f3_1 c3_2 f3_2 c3_3 f3_3 c3_4 f3_4 c3_5 f3_5;obtain⟨S,KP,KQ,KA,G1,G2⟩:=BI B1 B2;obtain⟨g1_0,g1_1,g1_2,g1_3,g1_4,g1_5⟩:=Cs.f6 G1;obtain⟨g2_0,g2_1,g2_2,g2_3,g2_4,g2_5⟩:=Cs.f6 G2;refine jB S (by kernel_rfl) (by kernel_rfl) (KP.out _ Qb.drew) ?_
 intro hne;have hb:=(Below.refl w4.heap.size w4).drew;obtain⟨w5,hd⟩:∃ u,u=w4.drew:=⟨_,rfl⟩;rw[<-hd] at hb ⊢
 (try simp only[Nat.add_assoc,Nat.reduceAdd])
 clear hd;have X:=Qh hb;replace B1:=B1.aa hb;replace B2:=B2.aa hb;replace B3:=B3.aa hb;replace O:=O.trans (hb.mono mw);replace mw:=O.size;clear hb
 repeat (first|(refine aF (by rfl) (by rfl) ?_;intro K hK;go_big_quiet_op;go_big_quiet_on)|(refine aG (by rfl) ?_))
 refine bj (by rfl) (by rfl) (fun K hK=>?_)
 unfold Oper.gives
 go_simp
 refine(eT _ _ _ _ _ _ _ _ _ _ _ _ w5 (SI.below HA.out O) (SI.below HC.out O) (by omega) (by omega)).mono ?_
 rintro e w6 ⟨P,cP,rfl,hos,hb⟩;replace X:=Qh (X.out.trans (hb.mono X.out.size));refine⟨_,rfl,hK _ _ ⟨⟨_,KP.out _ X.out⟩,rfl⟩ ?_⟩;clear hK K;have FP:=hos.mono (base':=w.heap.size) mw;replace B1:=B1.aa hb;replace B2:=B2.aa hb;replace B3:=B3.aa hb;replace O:=O.trans (hb.mono mw);replace mw:=O.size;clear hos;clear hb
 repeat (first|(refine aF (by rfl) (by rfl) ?_;intro K hK;go_big_quiet_op;go_big_quiet_on)|(refine aG (by rfl) ?_))
 refine bj (by rfl) (by rfl) (fun K hK=>?_)
 unfold Oper.gives
 go_simp
 refine(eT _ _ _ _ _ _ _ _ _ _ _ _ w6 (SI.below HB.out O) (SI.below HD.out O) (by omega) (by omega)).mono ?_
 rintro e w7 ⟨Q,cQ,rfl,hos,hb⟩;replace X:=Qh (X.out.trans (hb.mono X.out.size));refine⟨_,rfl,hK _ _ ⟨⟨_,KP.out _ X.out⟩,rfl⟩ ?_⟩;clear hK K;have FQ:=hos.mono (base':=w.heap.size) mw;replace B1:=B1.aa hb;replace B2:=B2.aa hb;replace B3:=B3.aa hb;replace FP:=FP.below hb;replace O:=O.trans (hb.mono mw);replace mw:=O.size;clear hos;clear hb
 repeat (first|(refine aF (by rfl) (by rfl) ?_;intro K hK;go_big_quiet_op;go_big_quiet_on)|(refine aG (by rfl) ?_))
 obtain⟨z3,c3_0,f3_0,c3_1,f3_1,c3_2,f3_2,c3_3,f3_3,c3_4,f3_4,c3_5,f3_5⟩:=B3.f6;refine bj (by rfl) (by rfl) (fun K hK=>?_)
 unfold Oper.gives
 go_simp
 refine hK _ _ ⟨⟨_,(KQ _ _ _ (by dsimp only;omega) (by dsimp only;omega)  (KQ _ _ _ (by dsimp only;omega) (by dsimp only;omega)  (KQ _ _ _ (by dsimp only;omega) (by dsimp only;omega)  (KQ _ _ _ (by dsimp only;omega) (by dsimp only;omega)  (KQ _ _ _ (by dsimp only;omega) (by dsimp only;omega)  (KQ _ _ _ (by dsimp only;omega) (by dsimp only;omega)  (KP.out _ X.out)))))))⟩,rfl⟩ ?_
 clear hK K;clear z3 c3_0 f3_0 c3_1 f3_1 c3_2 f3_2 c3_3 f3_3 c3_4 f3_4 c3_5 f3_5
 repeat (first|(refine aF (by rfl) (by rfl) ?_;intro K hK;go_big_quiet_op;go_big_quiet_on)|(refine aG (by rfl) ?_))
 refine aI ?_;clear hne KP KQ KA X g1_0 g1_1 g1_2 g1_3 g1_4 g1_5 G1 g2_0 g2_1 g2_2 g2_3 g2_4 g2_5 G2;obtain⟨z1,c1_0,f1_0,c1_1,f1_1,c1_2,f1_2,c1_3,f1_3,c1_4,f1_4,c1_5,f1_5⟩:=B1.f6;obtain⟨z2,c2_0,f2_0,c2_1,f2_1,c2_2,f2_2,c2_3,f2_3,c2_4,f2_4,c2_5,f2_5⟩:=B2.f6;obtain⟨z3,c3_0,f3_0,c3_1,f3_1,c3_2,f3_2,c3_3,f3_3,c3_4,f3_4,c3_5,f3_5⟩:=B3.f6;go_wp2
 exact bodyPost_ret (v:=SMV (aE aJ a c).r (aE aJ a c).c P (aE aJ a c).v.length cP (aE aJ b d).r (aE aJ b d).c Q (aE aJ b d).v.length cQ) (by simp[results,results213,go_sem,z1,c1_0,f1_0,c1_1,f1_1,c1_2,f1_2,c1_3,f1_3,c1_4,f1_4,c1_5,f1_5,z2,c2_0,f2_0,c2_1,f2_1,c2_2,f2_2,c2_3,f2_3,c2_4,f2_4,c2_5,f2_5,z3,c3_0,f3_0,c3_1,f3_1,c3_2,f3_2,c3_3,f3_3,c3_4,f3_4,c3_5,f3_5,(by omega:¬w.heap.size=w.heap.size+2),(by omega:¬w.heap.size+2=w.heap.size),(by omega:¬w.heap.size+1=w.heap.size+2),(by omega:¬w.heap.size+2=w.heap.size+1)]) rfl ⟨P,Q,cP,cQ,rfl,(OS.Ep FP B3 (by decide) (aZ.refl _ _).s1.s1.s1.s1.s1.s1),(OS.Ep FQ B3 (by decide) (aZ.refl _ _).s1.s1.s1.s1.s1.s1),((((((O.setCell (by dsimp only;omega) _).setCell (by dsimp only;omega) _).setCell (by dsimp only;omega) _).setCell (by dsimp only;omega) _).setCell (by dsimp only;omega) _).setCell (by dsimp only;omega) _)⟩
end
section
attribute [local go_sem] af ah ae
theorem uM {v:List Int} {n:Nat} (hn:1<=n/\n<=25) {A B:Option Addr} {c d:Nat} (w:World) (hx:SI w A n v) (hy:SI w B n v):Calls prog 304 #[.slice A n c,.slice B n d] w fun e w'=>e= .returned (.bool true)/\∃ q,w'=w.drewN q:=by
 obtain⟨a,o,rfl,_,hc⟩:=hx.2 (by omega)
 obtain⟨a',o',rfl,_,hc'⟩:=hy.2 (by omega)
 have HC:=Qh hc;have HC':=Qh hc';clear hx hy hc hc'
 go_enter func304,ntmps304
 go_wp2
 go_loopw [13] (fun i wr=>∃ j q:Nat,j<=n/\i= .int .i64 j/\Hid (wr=w.drewN q)) (fun i _=>n-(intOf i).toNat)
 case atStart=>exact⟨0,0,Nat.zero_le _,rfl,Qh rfl⟩
 case round =>
 obtain⟨j,q,hj,rfl,hw⟩:=hrel;have hw':=hw.out;subst hw'
 by_cases hlt:j<n
 ·have cx:=HC.out j hlt;have cy:=HC'.out j hlt;have j0:(0:Int)<=(j:Int):=by omega
  have j1:(j:Int)<(n:Int):=by omega
  go_wp2_with fail
  go_quiet (fail)
  go_wp2
  go_roundw
  case rel=>exact⟨j+1,_,by omega,by go_num,Qh rfl⟩
  case measure=>simp[intOf];omega
 ·obtain rfl:j=n:=by omega
  go_wp2
  go_ret
  exact⟨rfl,q,rfl⟩
theorem uL {v:List Int} {n:Nat} (hn:1<=n/\n<=25) {A B:Option Addr} {c d:Nat} (w:World) (hx:SI w A n v) (hy:SI w B n v):Calls prog 304 #[.slice A n c,.slice B n d] w fun e w'=>e= .returned (.bool true)/\Below w.heap.size w w':=(uM hn w hx hy).mono fun _ _ h=>⟨h.1,by obtain⟨q,rfl⟩:=h.2;exact below_drewN Qb _⟩
theorem nH {m:Mx} (h:mvB m=true) {x y:Value} (w:World) (hx:RM w x m) (hy:RM w y m):Calls prog 301 #[x,y] w fun e w'=>e= .returned (.bool true)/\Below w.heap.size w w':=by
 have hl:=dy h;obtain⟨A,c,rfl,h1,h2,h3⟩:=hx;obtain⟨B,d,rfl,k1,k2,k3⟩:=hy;have HX:=Qh (RM.mk h1 h2 h3);have HY:=Qh (RM.mk k1 k2 k3);have HX1:=Qh h1;have HY1:=Qh k1;clear h h1 h2 h3 k1 k2 k3;refine zE ?_;intro u1 H;refine zB (sZ rfl rfl u1 (RM.below HX.out H.O) (RM.below HY.out H.O)) ?_;clear H;intro w2 u2 H;refine zB (uL hl u2 (SI.below HX1.out H.O) (SI.below HY1.out H.O)) ?_;clear H;intro w3 u3 H;refine zR ?_;clear H;intro u4 H
 exact⟨rfl,H.O⟩
theorem gC {p:Mx×Mx} (h:okS p=true) {x:Value} (w:World) (hx:RS w x p):Calls prog 169 #[x] w fun e w'=>e= .returned (.bool true)/\Below w.heap.size w w':=by
 obtain⟨A,B,c,d,rfl,h1,_,_,h2,_⟩:=hx
 exact dD h A B c d w h1 h2
theorem wU {w:World} {a b c:Mx×Mx} {A1 A2 B1 B2 C1 C2:Option Addr} {p1 p2 q1 q2 r1 r2:Nat} (h1:RS w (SMV a.1.r a.1.c A1 a.1.v.length p1 a.2.r a.2.c A2 a.2.v.length p2) a) (h2:RS w (SMV b.1.r b.1.c B1 b.1.v.length q1 b.2.r b.2.c B2 b.2.v.length q2) b) (h3:RS w (SMV c.1.r c.1.c C1 c.1.v.length r1 c.2.r c.2.c C2 c.2.v.length r2) c):RT w (MTV a b c A1 A2 B1 B2 C1 C2 p1 p2 q1 q2 r1 r2) a b c:=⟨A1,A2,B1,B2,C1,C2,p1,p2,q1,q2,r1,r2,rfl,h1,h2,h3⟩
theorem iw {a b c:Mx×Mx} (h:TOK a b c) {x:Value} (w:World) (ht:RT w x a b c):Calls prog 294 #[x] w fun e w'=>e= .returned (.bool true)/\Below w.heap.size w w':=by
 have HT0:=Qh ht;obtain⟨A1,A2,B1,B2,C1,C2,p1,p2,q1,q2,r1,r2,rfl,ha,hb,hc⟩:=ht;have HT:=HT0;unfold MTV;obtain⟨h1,h2,h3,h4,h5⟩:=h;have HM:=Qh (eV (eZ h1 h2 h4)).1;have HA:=Qh h1;have HB:=Qh h2;have HC:=Qh h3;have HAB:=Qh h4;have HJ:=Qh h5;have HX:=Qh ha;have HY:=Qh hb;have HZ:=Qh hc;clear h1 h2 h3 h4 h5 ha hb hc HT0;refine zE ?_;intro u1 H;refine zB (gC HA.out u1 (RS.below HX.out H.O)) ?_;clear H;intro w2 u2 H;refine zB (gC HB.out u2 (RS.below HY.out H.O)) ?_;clear H;intro w3 u3 H;refine zB (gC HC.out u3 (RS.below HZ.out H.O)) ?_;clear H;intro w4 u4 H;refine zX (tg [w.heap.size]) ?_;clear H;intro S w5 hne H;refine zD (H.c 0) ?_;intro G;refine yO (iJ HC.out w5 (RS.below HZ.out H.O)) ?_;clear H;intro w6 P cP H;refine yO (nw (c:=c) HA.out HB.out HAB.out w6 (RT.below HT.out H.O)) ?_;clear H;intro w7 Q cQ H;refine yB (nH HM.out w7 (Eq.mp (congrArg (RM _ _) HJ.out) (RM.aB (H.o 1))) (RM.aB (H.o 0))) ?_;clear H;intro w8 H;refine yN ?_;clear H G;intro u9 H;refine zR ?_;clear H;intro u10 H
 exact⟨rfl,H.O⟩
end
end Go.Proofs.YtjciicheoghcdaaGreatDoor
