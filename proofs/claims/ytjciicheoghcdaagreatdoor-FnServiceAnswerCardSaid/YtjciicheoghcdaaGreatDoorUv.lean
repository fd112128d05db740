/- Part of the proof of FnServiceAnswer. -/
import Derived.Test.YtjciicheoghcdaaGreatDoorUm
namespace Go.Proofs.YtjciicheoghcdaaGreatDoor
open Go.RowKit
set_option linter.all false
set_option maxRecDepth 20000
set_option maxHeartbeats 16000000
section
def cz (x y:Int):Prop:=(4096:Int)∣x-y
section
variable {a b c d x y:Int}
theorem cz.G6 (x:Int):cz x x:=by unfold cz;omega
theorem cz.add (h:cz a b) (g:cz c d):cz (a+c) (b+d):=by unfold cz at *;omega
theorem cz.sub (h:cz a b) (g:cz c d):cz (a-c) (b-d):=by unfold cz at *;omega
theorem cz.tr (h:cz a b) (g:cz b c):cz a c:=by unfold cz at *;omega
theorem cz.sy (h:cz a b):cz b a:=by unfold cz at *;omega
theorem cz.md (x:Int):cz (x%4096) x:=by unfold cz;omega
theorem cz.mul (h:cz a b) (g:cz c d):cz (a*c) (b*d):=by
 obtain⟨k,hk⟩:=h;obtain⟨l,hl⟩:=g;refine⟨k*c+b*l,?_⟩;have e:a*c-b*d=(a-b)*c+b*(c-d):=by rw[Int.sub_mul,Int.mul_sub];omega
 rw[e,hk,hl,Int.mul_add,Int.mul_assoc,Int.mul_left_comm b 4096 l]
theorem cz.eq (h:cz x y) (hx:0<=x/\x<=4095) (hy:0<=y/\y<=4095):x=y:=by unfold cz at h;omega
theorem bvr {D E A B A1 A2 B1 B2 X Y:Int} (hD:cz D (X-A)) (hE:cz E (Y-B)) (hA:cz A (A1+A2)) (hB:cz B (B1+B2)):cz (D*B1+D*B2+A1*E+A2*E+D*E+A*B) (X*Y):=by
 have e1:D*B1+D*B2=D*(B1+B2):=(Int.mul_add ..).symm;have e2:A1*E+A2*E=(A1+A2)*E:=(Int.add_mul ..).symm;have h1:cz (D*(B1+B2)) (D*B):=(cz.G6 D).mul hB.sy;have h2:cz ((A1+A2)*E) (A*E):=hA.sy.mul (cz.G6 E);have h3:cz ((D+A)*(E+B)) (X*Y):=by
  refine cz.mul ?_ ?_
  ·unfold cz at *;omega
  ·unfold cz at *;omega
 have e3:(D+A)*(E+B)=D*E+D*B+(A*E+A*B):=by rw[Int.add_mul,Int.mul_add,Int.mul_add]
 rw[e3] at h3;unfold cz at *
 omega
end
theorem Ib {f g:Nat->Int} {n:Nat} (h:∀ k,k<n->f k=g k):fl f n=fl g n:=by
 unfold fl
 exact List.map_congr_left fun k hk=>h k (List.mem_range.1 hk)
theorem FT {v:List Int} {i:Nat} (h:v.length<=i):v.getD i 0=0:=by rw[List.getD_eq_getElem?_getD,List.getElem?_eq_none h];rfl
theorem GM {a b:Mx} (ha:mvB a=true) (hb:mvB b=true) (hr:a.r=b.r) (hc:a.c=b.c) (h:∀ i,i<a.v.length->cz (a.v.getD i 0) (b.v.getD i 0)):a=b:=by
 have hl:a.v.length=b.v.length:=by
  have h1:=(cZ ha).1;have h2:=(cZ hb).1;rw[<-hr,<-hc] at h2
  omega
 obtain⟨r,c,v⟩:=a;obtain⟨r',c',v'⟩:=b;obtain rfl:r=r':=hr;obtain rfl:c=c':=hc
 congr 1
 refine List.ext_getElem hl fun i h1 h2=>?_
 have e:=(h i h1).eq (dE ha i) (dE hb i)
 rwa [List.getD_eq_getElem?_getD,List.getElem?_eq_getElem h1,List.getD_eq_getElem?_getD,List.getElem?_eq_getElem h2] at e
theorem GN {a b:Mx} (h:az a b=true) (i:Nat):cz ((aE aJ a b).v.getD i 0) (a.v.getD i 0+b.v.getD i 0):=by
 obtain⟨h1,h2,_,_⟩:=i_ h;have hl:=(bt h).1;rw[fi h];rcases Nat.lt_or_ge i a.v.length with hi|hi
 ·show cz ((fl _ _).getD i 0) _
  rw[Bx _ hi]
  show cz (aJ _ _) _
  rw[dX (dE h1 i) (dE h2 i)]
  exact cz.md _
 ·show cz ((fl _ _).getD i 0) _
  rw[FT (by rw[aD];exact hi),FT hi,FT (by omega)]
  exact cz.G6 _
theorem Ii {a b:Mx} (h:az a b=true) (i:Nat):cz ((aE bC a b).v.getD i 0) (a.v.getD i 0-b.v.getD i 0):=by
 obtain⟨h1,h2,_,_⟩:=i_ h;have hl:=(bt h).1;rw[fi h];rcases Nat.lt_or_ge i a.v.length with hi|hi
 ·show cz ((fl _ _).getD i 0) _
  rw[Bx _ hi]
  show cz (bC _ _) _
  rw[qL (dE h1 i) (dE h2 i)]
  exact cz.md _
 ·show cz ((fl _ _).getD i 0) _
  rw[FT (by rw[aD];exact hi),FT hi,FT (by omega)]
  exact cz.G6 _
theorem GD {p:Mx×Mx} (h:okS p=true) (i:Nat):cz ((aq p).v.getD i 0) (p.1.v.getD i 0+p.2.v.getD i 0):=GN h i
theorem GU {a b:Mx} (h:iz a b=true) {i:Nat} (hi:i<(mulM a b).v.length):cz ((mulM a b).v.getD i 0) (gx a b a.c.toNat b.c.toNat (i/b.c.toNat) (i%b.c.toNat) a.c.toNat):=by
 rw[ta h] at hi ⊢;rw[Bx _ (by simpa [aD] using hi)]
 exact cz.md _
theorem Hy {a b:Mx} (ha:mvB a=true) (hb:mvB b=true) (hr:a.r=b.r) (hc:a.c=b.c):a.v.length=b.v.length:=by
 have h1:=(cZ ha).1;have h2:=(cZ hb).1;rw[<-hr,<-hc] at h2
 omega
def mapM (f:Nat->Int) (m:Mx):Mx:=⟨m.r,m.c,fl (fun k=>f (m.v.getD k 0).toNat) m.v.length⟩
theorem mapM_ok {f:Nat->Int} (hf:∀ k,0<=f k/\f k<=4095) {m:Mx} (h:mvB m=true):mvB (mapM f m)=true:=by
 obtain⟨l,s1,s2,_⟩:=cZ h
 exact mf s1 s2 l fun k _=>aR (hf _)
theorem GA {p:Mx×Mx} (h:okS p=true):(aq p).v.length=p.1.v.length:=Hy (aN h).1 (ai h).1 (aN h).2.1 (aN h).2.2
theorem Ir {p:Mx×Mx} (h:okS p=true) (k:Nat):(aq p).v.getD k 0=(p.1.v.getD k 0+p.2.v.getD k 0)%4096:=((GD h k).tr (cz.md _).sy).eq (dE (aN h).1 k) (by omega)
theorem GG {f:Nat->Int} (hf:∀ k,0<=f k/\f k<=4095) {p:Mx×Mx} {s:Int} (h:okS p=true) (hs:sdB s=true):aq (dv f p s).1=mapM f (aq p):=by
 obtain⟨h1,h2,h3,_⟩:=GB f h hs;have hj:=aN h;refine GM (aN h1).1 (mapM_ok hf hj.1) ((aN h1).2.1.trans (h2.trans hj.2.1.symm)) ((aN h1).2.2.trans (h3.trans hj.2.2.symm)) fun i hi=>(GD h1 i).tr ?_
 have hi:i<p.1.v.length:=by
  rw[GA h1] at hi
  show i<_
  have e:(dv f p s).1.1.v.length=p.1.v.length:=aD _ _
  omega
 show cz ((fl (mp1 p s) p.1.v.length).getD i 0+(fl (mp2 f p s) p.1.v.length).getD i 0) ((fl _ (aq p).v.length).getD i 0)
 rw[Bx _ hi,Bx _ hi,Bx _ (by rw[GA h];exact hi)]
 show cz (lk1 (mpS s i) (shJ p i)+(f (shJ p i).toNat-lk1 (mpS s i) (shJ p i))%4096) (f ((aq p).v.getD i 0).toNat)
 rw[Ir h]
 show cz _ (f (shJ p i).toNat)
 unfold cz
 omega
theorem Hc {D E A B A1 A2 B1 B2 X Y:Mx} (hD:∀ i,cz (D.v.getD i 0) (X.v.getD i 0-A.v.getD i 0)) (hE:∀ i,cz (E.v.getD i 0) (Y.v.getD i 0-B.v.getD i 0)) (hA:∀ i,cz (A.v.getD i 0) (A1.v.getD i 0+A2.v.getD i 0)) (hB:∀ i,cz (B.v.getD i 0) (B1.v.getD i 0+B2.v.getD i 0)) (ac bc r c:Nat):∀ k,cz (gx D B1 ac bc r c k+gx D B2 ac bc r c k+gx A1 E ac bc r c k+gx A2 E ac bc r c k+gx D E ac bc r c k+gx A B ac bc r c k) (gx X Y ac bc r c k)
 | 0=>cz.G6 _
 | k+1=>by
  have h1:=Hc hD hE hA hB ac bc r c k;have h2:=bvr (hD (r*ac+k)) (hE (k*bc+c)) (hA (r*ac+k)) (hB (k*bc+c));unfold gx;unfold cz at *
  omega
theorem Hi {x y:Mx×Mx} {s:Int} (hx:okS x=true) (hy:okS y=true) (hxy:x.1.c=y.1.r):aq (dG x y s).1=mulM (aq x) (aq y):=by
 have P:=qq (s:=s) hx hy hxy
 show aq (dw x y (ig x.1.r x.1.c y.1.c s),dF x y (ig x.1.r x.1.c y.1.c s))=_
 generalize ig x.1.r x.1.c y.1.c s=t at P ⊢
 obtain⟨k1,k2,k3⟩:=P.ok;have hm:=eZ hx hy hxy;have jx:=aN hx;have jy:=aN hy;have J:=aN k1;have M:=eV hm;have e1:(aq (dw x y t,dF x y t)).r=x.1.r:=J.2.1.trans k2;have e2:(aq (dw x y t,dF x y t)).c=y.1.c:=J.2.2.trans k3;have f1:(mulM (aq x) (aq y)).r=x.1.r:=M.2.1.trans jx.2.1;have f2:(mulM (aq x) (aq y)).c=y.1.c:=M.2.2.trans jy.2.2;refine GM J.1 M.1 (e1.trans f1.symm) (e2.trans f2.symm) fun i hi=>?_
 have L:∀ m:Mx,mvB m=true->m.r=x.1.r->m.c=y.1.c->i<m.v.length:=fun m hm h1 h2=>by
  rw[Hy hm J.1 (h1.trans e1.symm) (h2.trans e2.symm)]
  exact hi
 have vt:=ai P.tk.vb;have va:=ai P.tk.va;have hde:=eV P.de;have hd1:=eV P.db1;have hd2:=eV P.db2;have ha1:=eV P.ae1;have ha2:=eV P.ae2;have hab:=eZ P.tk.va P.tk.vb P.tk.vab;have hAB:=eV hab;have jA:=aN P.tk.va;have jB:=aN P.tk.vb;have b2c:t.b.2.c=y.1.c:=vt.2.2.2.symm.trans P.bc.symm;have a2r:t.a.2.r=x.1.r:=va.2.2.1.symm.trans P.ar.symm;have a2c:t.a.2.c=x.1.c:=va.2.2.2.symm.trans P.ac.symm;have q1:=GU P.de (L _ hde.1 (hde.2.1.trans P.d.2.1) (hde.2.2.trans P.e.2.2));have q2:=GU P.db1 (L _ hd1.1 (hd1.2.1.trans P.d.2.1) (hd1.2.2.trans P.bc.symm));have q3:=GU P.db2 (L _ hd2.1 (hd2.2.1.trans P.d.2.1) (hd2.2.2.trans b2c));have q4:=GU P.ae1 (L _ ha1.1 (ha1.2.1.trans P.ar.symm) (ha1.2.2.trans P.e.2.2));have q5:=GU P.ae2 (L _ ha2.1 (ha2.2.1.trans a2r) (ha2.2.2.trans P.e.2.2));have q6:=GU hab (L _ hAB.1 (hAB.2.1.trans (jA.2.1.trans P.ar.symm)) (hAB.2.2.trans (jB.2.2.trans P.bc.symm)));have q7:=GU hm (L _ M.1 f1 f2);rw[P.d.2.2,P.e.2.2] at q1;rw[P.d.2.2,P.bc.symm] at q2;rw[P.d.2.2,b2c] at q3;rw[P.ac.symm,P.e.2.2] at q4;rw[a2c,P.e.2.2] at q5;rw[jA.2.2,jB.2.2,P.ac.symm,P.bc.symm] at q6;rw[jx.2.2,jy.2.2] at q7;have r1:=GD k1 i;have r2:=GN P.l1 i;have r3:=GN P.s1 i;have r4:=GN P.c1 i;have r5:=GN P.s2 i;have r6:=GN P.c2 i;have r7:=GD P.tk.vc i;rw[P.tk.vm] at r7;have z:=Hc (fun i=>Ii P.ld i) (fun i=>Ii P.le i) (fun i=>GD P.tk.va i) (fun i=>GD P.tk.vb i) x.1.c.toNat y.1.c.toNat (i/y.1.c.toNat) (i%y.1.c.toNat) x.1.c.toNat
 replace r1:cz _ ((dw x y t).v.getD i 0+(dF x y t).v.getD i 0):=r1;replace r2:cz ((dw x y t).v.getD i 0) _:=r2;replace r3:cz ((sb t.c.1 (pD x t) t.b.1 t.a.1 (pE y t)).v.getD i 0) _:=r3;replace r5:cz ((dF x y t).v.getD i 0) _:=r5;replace z:cz (gx (pD x t) t.b.1 _ _ _ _ _+gx (pD x t) t.b.2 _ _ _ _ _+gx t.a.1 (pE y t) _ _ _ _ _+gx t.a.2 (pE y t) _ _ _ _ _+gx (pD x t) (pE y t) _ _ _ _ _+gx (aq t.a) (aq t.b) _ _ _ _ _) _:=z;unfold cz at *
 omega
def ct (x y:Mx):Mx:=mapM (fnv 1) (mulM x y)
theorem FD {x y:Mx×Mx} {s:Int} (hx:okS x=true) (hy:okS y=true) (hxy:x.1.c=y.1.r) (hs:sdB s=true):aq (eI x y s).1=ct (aq x) (aq y):=by
 obtain⟨a1,_,_,a4⟩:=kI hx hy hxy hs;unfold eI ct;rw[GG (pX 1) a1 a4,Hi hx hy hxy]
theorem Ho {a b:Mx×Mx} (ha:okS a=true) (hb:okS b=true) (h1:a.1.r=b.1.r) (h2:a.1.c=b.1.c):aq (jX a b)=aE aJ (aq a) (aq b):=by
 obtain⟨k1,k2,k3⟩:=vD ha hb h1 h2;obtain⟨a1,a2,a3,a4⟩:=ai ha;obtain⟨b1,b2,b3,b4⟩:=ai hb;have l1:=aY a1 b1 h1 h2;have l2:az a.2 b.2=true:=aY a2 b2 (by rw[<-a3,<-b3,h1]) (by rw[<-a4,<-b4,h2])
 have ja:=aN ha;have jb:=aN hb;have l3:az (aq a) (aq b)=true:=aY ja.1 jb.1 (by rw[ja.2.1,jb.2.1,h1]) (by rw[ja.2.2,jb.2.2,h2])
 have m:=fc l3;refine GM (aN k1).1 m.1 ((aN k1).2.1.trans (k2.trans (ja.2.1.symm.trans m.2.1.symm))) ((aN k1).2.2.trans (k3.trans (ja.2.2.symm.trans m.2.2.symm))) fun i _=>?_
 have r1:=GD k1 i;have r2:=GN l1 i;have r3:=GN l2 i;have r4:=GN l3 i;have r5:=GD ha i;have r6:=GD hb i;replace r1:cz _ ((aE aJ a.1 b.1).v.getD i 0+(aE aJ a.2 b.2).v.getD i 0):=r1;unfold cz at *
 omega
theorem Hm {p:Mx×Mx} {cs:Int} (h:okS p=true) (hc:side cs=true):aq (iu p cs)=rj (aq p) cs:=by
 have k:=oF h hc;have j:=aN h;have J:=aN k;refine GM J.1 (sH j.1 hc) (J.2.1.trans j.2.1.symm) J.2.2 fun i hi=>(GD k i).tr ?_
 have hl:i<p.1.r.toNat*cs.toNat:=by
  rw[GA k] at hi
  simpa [iu,rj,aD] using hi
 obtain⟨_,_,e3,_⟩:=ai h
 show cz ((fl (xw p.1 cs) _).getD i 0+(fl (xw p.2 cs) _).getD i 0) ((fl (xw (aq p) cs) _).getD i 0)
 rw[Bx _ hl,Bx _ (by rw[<-e3];exact hl),Bx _ (by rw[j.2.1];exact hl)]
 exact(GD h _).sy
theorem Hl {p:Mx×Mx} (h:okS p=true):aq (jz p)=ir (aq p):=by
 obtain⟨k,k2,k3⟩:=kY h;obtain⟨m1,m2,e3,e4⟩:=ai h;have j:=aN h;have J:=aN k;have T:=sG j.1;refine GM J.1 T.1 (J.2.1.trans (k2.trans (j.2.2.symm.trans T.2.1.symm))) (J.2.2.trans (k3.trans (j.2.1.symm.trans T.2.2.symm))) fun i hi=>(GD k i).tr ?_
 have hl:i<p.1.c.toNat*p.1.r.toNat:=by
  rw[GA k] at hi;unfold jz at hi
  dsimp only at hi
  rw[qN m1] at hi
  simpa [aD] using hi
 unfold jz
 dsimp only
 rw[qN m1,qN m2,qN j.1]
 dsimp only
 rw[Bx _ hl,Bx _ (by rw[<-e3,<-e4];exact hl),Bx _ (by rw[j.2.1,j.2.2];exact hl)]
 unfold zF;rw[<-e3,<-e4,j.2.1,j.2.2]
 exact(GD h _).sy
theorem G7 {p:Mx×Mx} (h:okS p=true) (mc r:Nat):∀ k,cz (ew p.1 mc r k+ew p.2 mc r k) (ew (aq p) mc r k)
 | 0=>cz.G6 _
 | k+1=>by
  have h1:=G7 h mc r k;have h2:=GD h (r*mc+k);unfold ew;unfold cz at *
  omega
theorem Hj {p:Mx×Mx} (h:okS p=true):aq (mi p)=il (aq p):=by
 obtain⟨k,k2,k3⟩:=n_ h;obtain⟨m1,m2,e3,e4⟩:=ai h;have j:=aN h;have J:=aN k;have T:=sh j.1;refine GM J.1 T.1 (J.2.1.trans (k2.trans (j.2.1.symm.trans T.2.1.symm))) (J.2.2.trans (k3.trans T.2.2.symm)) fun i hi=>(GD k i).tr ?_
 have hl:i<p.1.r.toNat:=by
  rw[GA k] at hi;unfold mi at hi
  dsimp only at hi
  rw[qu m1] at hi
  simpa [aD] using hi
 unfold mi
 dsimp only
 rw[qu m1,qu m2,qu j.1]
 dsimp only
 rw[Bx _ hl,Bx _ (by rw[<-e3];exact hl),Bx _ (by rw[j.2.1];exact hl)]
 rw[<-e4,j.2.2];have:=G7 h p.1.c.toNat i p.1.c.toNat;unfold cz at *
 omega
def GC (g m:Mx):Mx:=⟨g.r,g.c,fl (fun k=>(g.v.getD k 0*m.v.getD (k/g.c.toNat) 0)%4096) g.v.length⟩
theorem GP {g:Mx} (m:Mx) (h:mvB g=true):mvB (GC g m)=true:=by
 obtain⟨l,s1,s2,_⟩:=cZ h
 exact mf s1 s2 l fun k _=>sl _
theorem G_ {p q:Mx×Mx} {s:Int} (h:okS p=true) (hq:okS q=true) (hs:sdB s=true):aq (c_ p q s).1=GC (aq p) (aq q):=by
 obtain⟨h1,h2,h3,_⟩:=pK (q:=q) h hs;have j:=aN h;have J:=aN h1;refine GM J.1 (GP _ j.1) (J.2.1.trans (h2.trans j.2.1.symm)) (J.2.2.trans (h3.trans j.2.2.symm)) fun i hi=>(GD h1 i).tr ?_
 have hl:i<p.1.v.length:=by
  rw[GA h1] at hi
  simpa [c_,aD] using hi
 show cz ((fl (sc1 p q s) _).getD i 0+(fl (sc2 p q s) _).getD i 0) ((fl _ (aq p).v.length).getD i 0)
 rw[Bx _ hl,Bx _ hl,Bx _ (by rw[GA h];exact hl)]
 rw[j.2.2];refine cz.tr ?_ (cz.md _).sy;have b:=bvr (D:=scD p (scS s i) i) (E:=scE q (scS s i) (i/p.1.c.toNat)) (A:=rn (scS s i) 0+rn (scS s i) 1) (B:=rn (scS s i) 2+rn (scS s i) 3) (X:=(aq p).v.getD i 0) (Y:=(aq q).v.getD (i/p.1.c.toNat) 0)
  (A1:=rn (scS s i) 0) (A2:=rn (scS s i) 1) (B1:=rn (scS s i) 2) (B2:=rn (scS s i) 3)
  (by have e:=GD h i;have f:=cz.md (p.1.v.getD i 0+p.2.v.getD i 0-(rn (scS s i) 0+rn (scS s i) 1));unfold scD mD;unfold cz at *;omega)
  (by have e:=GD hq (i/p.1.c.toNat);have f:=cz.md (q.1.v.getD (i/p.1.c.toNat) 0+q.2.v.getD (i/p.1.c.toNat) 0-(rn (scS s i) 2+rn (scS s i) 3));unfold scE mD;unfold cz at *;omega) (cz.G6 _) (cz.G6 _)
 unfold sc1 sc2 mP1 mP2 tC;rw[Int.mul_comm (scE _ _ _) (rn (scS s i) 0),Int.mul_comm (scE _ _ _) (rn (scS s i) 1)];unfold cz at *
 omega
def G5 (w b x:Mx):Mx:=aE aJ (ct w x) (rj b x.c)
theorem Hp {w b x:Mx×Mx} {s:Int} (hw:okS w=true) (hb:okS b=true) (hx:okS x=true) (hwx:w.1.c=x.1.r) (hbw:b.1.r=w.1.r) (hs:sdB s=true):aq (ec w b x s).1=G5 (aq w) (aq b) (aq x):=by
 obtain⟨a1,a2,a3,a4⟩:=BV hw hx hwx hs;obtain⟨_,sc⟩:=aA (ai hx).1
 show aq (jX (eI w x s).1 (iu b x.1.c))=_
 rw[Ho a1 (oF hb sc) (by rw[a2];exact hbw.symm) a3,FD hw hx hwx hs,Hm hb sc]
 unfold G5;rw[(aN hx).2.2]
def G0 (a b c x:Mx):Mx :=
 let g:=mapM (fnv 4) (ct (ct x a) (ir (ct x b)))
 ct (mapM (fnv 1) (GC g (mapM (fnv 5) (il g)))) (ct x c)
theorem Hx {a b c x:Mx×Mx} {s:Int} (ha:okS a=true) (hb:okS b=true) (hc:okS c=true) (hx:okS x=true) (a1:a.1.r=x.1.c) (a2:a.1.c=x.1.c) (b1:b.1.r=x.1.c) (b2:b.1.c=x.1.c) (c1:c.1.r=x.1.c) (c2:c.1.c=x.1.c) (hs:sdB s=true):aq (nR a b c x s).1=G0 (aq a) (aq b) (aq c) (aq x):=by
 have R:=AB a b c x s;have V:=AD R ha hb hc hx a1 a2 b1 b2 c1 c2 hs
 show aq (yc a b c x s).o.1=_
 generalize yc a b c x s=z at R V ⊢
 have q:aq z.q.1=ct (aq x) (aq a):=by rw[R.q];exact FD hx ha a1.symm hs
 have k:aq z.k.1=ct (aq x) (aq b):=by rw[R.k];exact FD hx hb b1.symm V.q.2.2.2
 have v:aq z.v.1=ct (aq x) (aq c):=by rw[R.v];exact FD hx hc c1.symm V.k.2.2.2
 have u:=kY V.k.1;have t:aq z.t.1=ct (aq z.q.1) (ir (aq z.k.1)):=by
  rw[R.t,FD V.q.1 u.1 (by rw[V.q.2.2.1,u.2.1,V.k.2.2.1]) V.v.2.2.2,Hl V.k.1]
 have g:aq z.g.1=mapM (fnv 4) (aq z.t.1):=by rw[R.g];exact GG (pX 4) V.t.1 V.t.2.2.2
 have m:aq z.m.1=mapM (fnv 5) (il (aq z.g.1)):=by
  rw[R.m,GG (pX 5) (n_ V.g.1).1 V.g.2.2.2,Hj V.g.1]
 have e:aq z.e.1=GC (aq z.g.1) (aq z.m.1):=by rw[R.e];exact G_ V.g.1 V.m.1 V.m.2.2.2
 have h:aq z.h.1=mapM (fnv 1) (aq z.e.1):=by rw[R.h];exact GG (pX 1) V.e.1 V.e.2.2.2
 have o:aq z.o.1=ct (aq z.h.1) (aq z.v.1):=by rw[R.o];exact FD V.h.1 V.v.1 (by rw[V.h.2.2.1,V.v.2.1]) V.h.2.2.2
 rw[o,h,e,m,g,t,q,k,v]
 rfl
def GL (l:PL) (x:Mx):Mx:=if l.1=1 then G5 (l.2.getD 0 Mx.z) (l.2.getD 1 Mx.z) x else if l.1=2 then mapM (fnv 2) x else G0 (l.2.getD 0 Mx.z) (l.2.getD 1 Mx.z) (l.2.getD 2 Mx.z) x
def runM (net:List PL) (x:Mx):Mx:=net.foldl (fun x l=>GL l x) x
theorem Hk {net:List PL} {j:Nat} {l:PL} (h:net[j]?=some l) (x:Mx):runM (net.take (j+1)) x=GL l (runM (net.take j) x):=by
 rw[aW h]
 simp[runM,List.foldl_append]
theorem Hv {l:SL} (h:aL l.1 (l.2.map aq)=true) {z:(Mx×Mx)×Int} {r c:Int} (hz:OKD z r c) {rc':Int×Int} (e:dr (df l) (r,c)=some rc'):aq (jm l z).1=GL (df l) (aq z.1):=by
 obtain⟨h1,h2,h3,h4⟩:=hz;unfold dr df at e;unfold jm GL df;rcases mV h with⟨k,a,b,hl,oa,ob,hb1,hb2⟩|⟨k,hl⟩|⟨k,p,q,t,hl,oa,ob,oc,x1,x2,x3,x4,x5⟩
 ·dsimp only at e ⊢
  rw[if_pos k,hl] at e;rw[if_pos k,if_pos k,hl];simp only[List.map_cons,List.getD_cons_zero,List.getD_cons_succ] at e ⊢
  split at e
  ·rename_i hc
   rw[(aN oa).2.2] at hc
   exact Hp oa ob h1 (by rw[hc,h2]) hb2 h4
  ·cases e
 ·dsimp only at e ⊢
  rw[if_neg (by omega),if_pos k,if_neg (by omega),if_pos k]
  exact GG (pX 2) h1 h4
 ·dsimp only at e ⊢
  rw[if_neg (by omega),if_neg (by omega)] at e
  rw[if_neg (by omega),if_neg (by omega),if_neg (by omega),if_neg (by omega)]
  rw[hl] at e ⊢;simp only[List.map_cons,List.getD_cons_zero,List.getD_cons_succ] at e ⊢
  split at e
  ·rename_i hc
   rw[(aN oa).2.1] at hc
   exact Hx oa ob oc h1 (by rw[hc,h3]) (by rw[<-x1,hc,h3]) (by rw[x2,<-x1,hc,h3]) (by rw[x3,<-x1,hc,h3]) (by rw[x4,<-x1,hc,h3]) (by rw[x5,<-x1,hc,h3]) h4
  ·cases e
theorem H8 {net:List SL}:∀ (h:∀ l,l∈net->aL l.1 (l.2.map aq)=true) {z:(Mx×Mx)×Int} {rc rc':Int×Int} (hz:OKD z rc.1 rc.2) (e:bE (net.map df) (some rc)=some rc'),aq (fD net z).1=runM (net.map df) (aq z.1):=by
 induction net with
 | nil=>intro h z rc rc' hz e;rfl
 | cons l ls ih =>
  intro h z rc rc' hz e;have e':bE (ls.map df) (dr (df l) rc)=some rc':=e
  cases hs:dr (df l) rc with
  | none=>rw[hs,lP] at e';cases e'
  | some r1 =>
   rw[hs] at e';have hl:=h l (List.mem_cons_self ..);have:=ih (fun x hx=>h x (List.mem_cons_of_mem _ hx)) (qk hl hz hs) e'
   show aq (fD ls (jm l z)).1=runM (ls.map df) (GL (df l) (aq z.1))
   rw[this,Hv hl hz hs]
theorem ln {a b:Mx} (h:iz a b=true):mvB (ct a b)=true/\(ct a b).r=a.r/\(ct a b).c=b.c:=⟨mapM_ok (pX 1) (eV h).1,(eV h).2.1,(eV h).2.2⟩
theorem Hb {a b x:Mx} (ha:mvB a=true) (hb:mvB b=true) (hx:mvB x=true) (hbr:b.r=a.r) (hax:a.c=x.r):mvB (G5 a b x)=true/\(G5 a b x).r=a.r/\(G5 a b x).c=x.c/\az (ct a x) (rj b x.c)=true:=by
 have hM:=jd ha hx hax;have hl:az (ct a x) (rj b x.c)=true:=aY (ln hM).1 (sH hb (aA hx).2) ((ln hM).2.1.trans hbr.symm) (ln hM).2.2;have k:=fc hl
 exact⟨k.1,k.2.1.trans (ln hM).2.1,k.2.2.trans (ln hM).2.2,hl⟩
theorem Ic {a b c x:Mx} (ha:mvB a=true) (hb:mvB b=true) (hc:mvB c=true) (hx:mvB x=true) (a1:a.r=a.c) (b1:b.r=a.c) (b2:b.c=a.c) (c1:c.r=a.c) (c2:c.c=a.c) (hxa:a.r=x.c):mvB (G0 a b c x)=true/\(G0 a b c x).r=x.r/\(G0 a b c x).c=a.c:=by
 have q:=ln (jd hx ha hxa.symm);have k:=ln (jd hx hb (by rw[b1,<-a1,hxa]))
 have v:=ln (jd hx hc (by rw[c1,<-a1,hxa]))
 have t:=sG k.1;have u:=ln (jd q.1 t.1 (by rw[q.2.2,t.2.1,k.2.2,b2]))
 have g:=mapM_ok (pX 4) u.1;have gr:(mapM (fnv 4) (ct (ct x a) (ir (ct x b)))).r=x.r:=u.2.1.trans q.2.1;have gc:(mapM (fnv 4) (ct (ct x a) (ir (ct x b)))).c=x.r:=u.2.2.trans (t.2.2.trans k.2.1)
 show mvB (ct (mapM (fnv 1) (GC (mapM (fnv 4) (ct (ct x a) (ir (ct x b)))) _)) (ct x c))=true/\(ct (mapM (fnv 1) (GC (mapM (fnv 4) (ct (ct x a) (ir (ct x b)))) _)) (ct x c)).r=_/\(ct (mapM (fnv 1) (GC (mapM (fnv 4) (ct (ct x a) (ir (ct x b)))) _)) (ct x c)).c=_
 have h:=mapM_ok (pX 1) (GP (mapM (fnv 5) (il (mapM (fnv 4) (ct (ct x a) (ir (ct x b)))))) g);have o:=ln (jd h v.1 (gc.trans v.2.1.symm))
 exact⟨o.1,o.2.1.trans gr,o.2.2.trans (v.2.2.trans c2)⟩
theorem Hs {a b x:Mx}:GL (1,[a,b]) x=G5 a b x:=by unfold GL;rw[if_pos rfl];rfl
theorem Ht {x:Mx}:GL (2,[]) x=mapM (fnv 2) x:=by unfold GL;rw[if_neg (by decide),if_pos rfl]
theorem Hu {a b c x:Mx}:GL (3,[a,b,c]) x=G0 a b c x:=by unfold GL;rw[if_neg (by simp),if_neg (by simp)];rfl
theorem Hd {l:PL} (h:aL l.1 l.2=true) {x:Mx} (hx:mvB x=true) {rc':Int×Int} (e:dr l (x.r,x.c)=some rc'):mvB (GL l x)=true/\(GL l x).r=rc'.1/\(GL l x).c=rc'.2:=by
 obtain⟨kd,ms⟩:=l;unfold dr at e
 dsimp only at e
 rcases eM h with⟨k,a,b,hl,va,vb,h1,h2⟩|⟨k,hl⟩|⟨k,a,b,c,hl,va,vb,vc,h1,h2,h3,h4,h5⟩
 ·dsimp only at k hl
  subst k hl;rw[if_pos rfl] at e;simp only[List.getD_cons_zero] at e
  split at e
  ·rename_i hc
   injection e with e;subst e;rw[Hs];have:=Hb va vb hx h2 hc
   exact⟨this.1,this.2.1,this.2.2.1⟩
  ·cases e
 ·dsimp only at k hl
  subst k hl;rw[if_neg (by decide),if_pos rfl] at e
  injection e with e;subst e;rw[Ht]
  exact⟨mapM_ok (pX 2) hx,rfl,rfl⟩
 ·dsimp only at k hl
  subst k hl;rw[if_neg (by decide),if_neg (by decide)] at e
  simp only[List.getD_cons_zero] at e
  split at e
  ·rename_i hc
   injection e with e;subst e;rw[Hu];have:=Ic va vb vc hx h1 h2 h3 h4 h5 hc
   exact⟨this.1,this.2.1,this.2.2.trans (h1.symm.trans hc)⟩
  ·cases e
theorem Ih {net:List PL}:∀ (h:∀ l,l∈net->aL l.1 l.2=true) {x:Mx} (hx:mvB x=true) {rc':Int×Int} (e:bE net (some (x.r,x.c))=some rc'),mvB (runM net x)=true:=by
 induction net with
 | nil=>intro h x hx rc' e;exact hx
 | cons l ls ih =>
  intro h x hx rc' e;have e':bE ls (dr l (x.r,x.c))=some rc':=e
  cases hs:dr l (x.r,x.c) with
  | none=>rw[hs,lP] at e';cases e'
  | some r1 =>
   rw[hs] at e';have k:=Hd (h l (List.mem_cons_self ..)) hx hs;refine ih (fun y hy=>h y (List.mem_cons_of_mem _ hy)) k.1 ?_ (rc':=rc')
   rw[k.2.1,k.2.2]
   exact e'
def Gz (net:List PL) (m:Mx):Mx:=if (bE net (some (m.r,m.c))).isSome=true then runM net m else Mx.z
end
end Go.Proofs.YtjciicheoghcdaaGreatDoor
