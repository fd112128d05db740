/- Part of the proof: the law FnServiceRun is true for every input. -/
import Derived.Deep.AppendLies
import Derived.Test.YtjciicheoghcdaaGreatDoorVf
import Derived.Test.YtjciicheoghcdaaGreatDoorVg
import Derived.Test.YtjciicheoghcdaaGreatDoorVh
import Derived.Test.YtjciicheoghcdaaGreatDoorVi
import Derived.Test.YtjciicheoghcdaaGreatDoorVj
namespace Go.Proofs.YtjciicheoghcdaaGreatDoor
open Go.RowKit Go.Proofs.Tryz
set_option linter.all false
set_option maxRecDepth 20000
set_option maxHeartbeats 16000000
def sdB (n:Int):Bool:=decide (1<=n/\n<=2147483646)
def svB (x:List (Int×List (Mx×Mx))×Int):Bool:=bu x.1 && sdB x.2
theorem xP (n:Int) (w:World):Calls prog 70 #[.int .i64 n] w fun e w'=>e= .returned (.bool (sdB n))/\w=w':=by
 by_cases h1:1<=n
 ·by_cases h2:n<=2147483646
  ·have e:sdB n=true:=decide_eq_true ⟨h1,h2⟩;rw[e];clear e
   go_enter func70,ntmps70
   go_wp2
   go_ret
   exact⟨rfl,rfl⟩
  ·have e:sdB n=false:=decide_eq_false (fun h=>h2 h.2)
   rw[e];clear e
   go_enter func70,ntmps70
   go_wp2
   go_ret
   exact⟨rfl,rfl⟩
 ·have e:sdB n=false:=decide_eq_false (fun h=>h1 h.1)
  rw[e];clear e
  go_enter func70,ntmps70
  go_wp2
  go_ret
  exact⟨rfl,rfl⟩
theorem pJ (n:Int) (w:World):Calls prog 53 #[.int .i64 n,.int .i64 1,.int .i64 2147483646] w fun e w'=>e= .returned (.bool (sdB n))/\w=w':=by
 by_cases h1:1<=n
 ·by_cases h2:n<=2147483646
  ·have e:sdB n=true:=decide_eq_true ⟨h1,h2⟩;rw[e];clear e
   go_enter func53,ntmps53
   go_wp2
   go_ret
   exact⟨rfl,rfl⟩
  ·have e:sdB n=false:=decide_eq_false (fun h=>h2 h.2)
   rw[e];clear e
   go_enter func53,ntmps53
   go_wp2
   go_ret
   exact⟨rfl,rfl⟩
 ·have e:sdB n=false:=decide_eq_false (fun h=>h1 h.1)
  rw[e];clear e
  go_enter func53,ntmps53
  go_wp2
  go_ret
  exact⟨rfl,rfl⟩
theorem iM (W:World) (cs:List Value) (x:List (Int×List (Mx×Mx))×Int) (F:List Nat) (h:tB.P W cs x F) (hs:svS x):Calls prog 29 #[.agg cs.toArray] W fun e w'=>e= .returned (.bool (svB x))/\Below W.heap.size W w':=by
 obtain⟨A,c,rfl,h1⟩:=h;have HX:=Qh h1;have HS:Hid (gG (kS smS) x.1):=hs;clear h1 hs
 go_enter func29,ntmps29
 go_wp2_with fail
 obtain⟨u1,hu1⟩:∃ u,u=(W.alloc (.cells #[.slice A x.1.length c,.int .i64 x.2] 25)):=⟨_,rfl⟩;rw[<-hu1];have hzu1:u1.heap.size<=W.heap.size+1:=by rw[hu1];simp
 have hyu1:W.heap.size+1<=u1.heap.size:=by rw[hu1];simp
 have B1_1:Blk u1 (W.heap.size) 25 #[.slice A x.1.length c,.int .i64 x.2]:=by rw[hu1];have h:=(Blk.new W 25 #[.slice A x.1.length c,.int .i64 x.2]);simpa using h
 have xb1:W.heap.size<=W.heap.size:=by omega
 have O1:Below W.heap.size W u1:=by rw[hu1];exact((Below.refl W.heap.size W).alloc (by first|omega|(simp;done)|(simp;omega)) _)
 have m1:W.heap.size<=u1.heap.size:=by omega
 clear hu1;have hjn:=FV A _ c x.1 F u1 (HX.out.below O1) HS.out;refine hjn.mono ?_;clear hjn;rintro e w2 ⟨A',n',c',F',rfl,-,-,hb⟩;have B2_1:=(B1_1.aa hb);have O2:=O1.trans (hb.mono (by omega))
 have m2:W.heap.size<=w2.heap.size:=by have:=hb.size;omega
 clear B1_1 O1 hb;have z2_1:W.heap.size<w2.heap.size:=B2_1.lt;have c2_1_0:w2.cell? ⟨W.heap.size,0,none⟩=some (.slice A x.1.length c):=B2_1.cell 0;have f2_1_0:w2.frozen? ⟨W.heap.size,0,none⟩=false:=B2_1.frozen 0;have c2_1_1:w2.cell? ⟨W.heap.size,1,none⟩=some (.int .i64 x.2):=B2_1.cell 1;have f2_1_1:w2.frozen? ⟨W.heap.size,1,none⟩=false:=B2_1.frozen 1
 cases hk:bu x.1
 ·have HE:Hid (svB x=false):=(show svB x=false by unfold svB;rw[hk];rfl)
  clear hk;go_wp2
  go_ret
  exact⟨by first|exact HE.out|(rw[HE.out];rfl),O2⟩
 ·have HE:Hid (svB x=sdB x.2):=(show svB x=sdB x.2 by unfold svB;rw[hk];rfl)
  clear hk
  go_wp2_with fail
  refine Qc (xP x.2 w2) ?_;go_wp2
  go_ret
  exact⟨by first|exact HE.out|(rw[HE.out];rfl)|rw[HE.out],O2⟩
theorem iS (W:World) (cs:List Value) (x:List (Int×List (Mx×Mx))×Int) (F:List Nat) (h:tB.P W cs x F) (hs:svS x):Calls prog 12 #[.agg cs.toArray] W fun e w'=>e= .returned (.bool (svB x))/\Below W.heap.size W w':=by
 obtain⟨A,c,rfl,h1⟩:=h;have HX:=Qh h1;have HS:Hid (gG (kS smS) x.1):=hs;clear h1 hs
 go_enter func12,ntmps12
 go_wp2_with fail
 obtain⟨u1,hu1⟩:∃ u,u=(W.alloc (.cells #[.slice A x.1.length c,.int .i64 x.2] 25)):=⟨_,rfl⟩;rw[<-hu1];have hzu1:u1.heap.size<=W.heap.size+1:=by rw[hu1];simp
 have hyu1:W.heap.size+1<=u1.heap.size:=by rw[hu1];simp
 have B1_1:Blk u1 (W.heap.size) 25 #[.slice A x.1.length c,.int .i64 x.2]:=by rw[hu1];have h:=(Blk.new W 25 #[.slice A x.1.length c,.int .i64 x.2]);simpa using h
 have xb1:W.heap.size<=W.heap.size:=by omega
 have O1:Below W.heap.size W u1:=by rw[hu1];exact((Below.refl W.heap.size W).alloc (by first|omega|(simp;done)|(simp;omega)) _)
 have m1:W.heap.size<=u1.heap.size:=by omega
 clear hu1;have hjn:=je A _ c x.1 F u1 (HX.out.below O1) HS.out;refine hjn.mono ?_;clear hjn;rintro e w2 ⟨A',n',c',F',rfl,-,-,hb⟩;have B2_1:=(B1_1.aa hb);have O2:=O1.trans (hb.mono (by omega))
 have m2:W.heap.size<=w2.heap.size:=by have:=hb.size;omega
 clear B1_1 O1 hb;have z2_1:W.heap.size<w2.heap.size:=B2_1.lt;have c2_1_0:w2.cell? ⟨W.heap.size,0,none⟩=some (.slice A x.1.length c):=B2_1.cell 0;have f2_1_0:w2.frozen? ⟨W.heap.size,0,none⟩=false:=B2_1.frozen 0;have c2_1_1:w2.cell? ⟨W.heap.size,1,none⟩=some (.int .i64 x.2):=B2_1.cell 1;have f2_1_1:w2.frozen? ⟨W.heap.size,1,none⟩=false:=B2_1.frozen 1
 cases hk:bu x.1
 ·have HE:Hid (svB x=false):=(show svB x=false by unfold svB;rw[hk];rfl)
  clear hk;go_wp2
  go_ret
  exact⟨by first|exact HE.out|(rw[HE.out];rfl),O2⟩
 ·have HE:Hid (svB x=sdB x.2):=(show svB x=sdB x.2 by unfold svB;rw[hk];rfl)
  clear hk
  go_wp2_with fail
  refine Qc (pJ x.2 w2) ?_;go_wp2
  go_ret
  exact⟨by first|exact HE.out|(rw[HE.out];rfl)|rw[HE.out],O2⟩
section
attribute [local go_sem] af ah ae
def nm (r c:Int):Nat:=(r*c).toNat
def cT (r c s:Int):Mx:=⟨r,c,fl (rn s) (nm r c)⟩
def cH (m:Mx) (s:Int):(Mx×Mx)×Int:=if (mvB m && sdB s)=true then ((cT m.r m.c s,aE bC m (cT m.r m.c s)),sds s (nm m.r m.c)) else ((Mx.z,Mx.z),0)
theorem lS {m:Mx} {s:Int} (h1:mvB m=true) (h2:sdB s=true):cH m s=((cT m.r m.c s,aE bC m (cT m.r m.c s)),sds s (nm m.r m.c)):=by unfold cH;rw[h1,h2];rfl
theorem xk {m:Mx} {s:Int} (h:(mvB m && sdB s)=false):cH m s=((Mx.z,Mx.z),0):=by unfold cH;rw[h];rfl
theorem dH {s:Int} (h:sdB s=true):1<=s/\s<=2147483646:=of_decide_eq_true h
theorem zh {r c:Int} (h1:side r=true) (h2:side c=true):r*c=(nm r c:Int)/\1<=nm r c/\nm r c<=25:=by
 have:=e6 h1 h2;unfold nm
 omega
theorem cz (n:Int) {b:Bool} (h:sdB n=b) (w:World):Calls prog 53 #[.int .i64 n,.int .i64 1,.int .i64 2147483646] w fun e w'=>e= .returned (.bool b)/\w=w':=by
 subst h
 exact pJ n w
def ij (m:Mx) (k:Int) (w:World) (e:Ending) (w':World):Prop:=∃ (A:Option Addr) (c:Nat),e= .returned (.tuple #[MV m.r m.c A m.v.length c,.int .i64 k])/\OS w' w.heap.size A m.v.length c m.v/\Below w.heap.size w w'
def Fh {α:Type} (E:Elt α) (x:α) (k:Int) (w:World) (e:Ending) (w':World):Prop:=∃ cs F,e= .returned (.tuple #[.agg cs.toArray,.int .i64 k])/\E.P w' cs x F/\Fr w' w.heap.size F/\Below w.heap.size w w'
def vB (p:Mx×Mx) (k:Int) (w:World) (e:Ending) (w':World):Prop:=∃ (A B:Option Addr) (c d:Nat),e= .returned (.tuple #[SMV p.1.r p.1.c A p.1.v.length c p.2.r p.2.c B p.2.v.length d,.int .i64 k])/\OS w' w.heap.size A p.1.v.length c p.1.v/\OS w' w.heap.size B p.2.v.length d p.2.v/\eJ A B/\Below w.heap.size w w'
theorem b9 {r c s:Int} (hr:side r=true) (hc:side c=true) (hs:sdB s=true) (w:World):Calls prog 93 #[.int .i64 r,.int .i64 c,.int .i64 s] w (ij (cT r c s) (sds s (nm r c)) w):=by
 have hsd:=dH hs;obtain⟨h1,h2,h3⟩:=zh hr hc;obtain⟨n,hnm⟩:∃ n,n=nm r c:=⟨_,rfl⟩;rw[<-hnm] at h1 h2 h3;have HNM:=Qh hnm;have hn:n<=4096:=by omega
 have hwN:IntKind.i64.wrap (r*c)=(n:Int):=by rw[h1];exact IntWalk.i64_in _ (by omega)
 clear hnm h1;refine zE ?_;intro u1 H;refine zP (cz s hs u1) ?_;clear H;intro u2 H;refine zP (aT r hr u2) ?_;clear H;intro u3 H;refine zP (aT c hc u3) ?_;clear H;intro u4 H;refine zO (kQ hsd n hn u4) ?_;clear H;intro w5 A ca u5 H;refine zS_ ?_;clear H;intro u6 H
 exact⟨A,ca,by rw[HNM.out];simp[cT,aD,<-HNM.out],by simp only[cT,aD];rw[<-HNM.out];exact(H.o 0),H.O⟩
theorem e_ (W:World) (cs:List Value) (m:Mx) (F:List Nat) (h:mxE.P W cs m F) (hb:mS m) (s:Int):Calls prog 45 #[.agg cs.toArray,.int .i64 s] W (vB (cH m s).1 (cH m s).2 W):=by
 obtain⟨A,c,rfl,h1⟩:=h;have HX:=Qh h1.1;clear h1;unfold mS at hb;have hmS:=hb;obtain⟨w,rfl⟩:∃ w:World,w=W:=⟨_,rfl⟩;refine zE ?_;intro u1 H;refine zG (aQ m.r m.c m.v A _ c u1 (SI.below HX.out H.O) hmS) ?_;rintro e w2 ⟨Aa,ca,rfl,hos,hb⟩;replace H:=H.os hb hos;clear hos
 dsimp only at H ⊢
 refine zN ?_;clear H;intro u3 H;refine zG (aM m.r m.c m.v Aa _ ca u3 (OS.si (H.o 0)) (by omega)) ?_
 rintro e w4 ⟨rfl,hb⟩;replace H:=H.b hb
 cases g1:mvB ⟨m.r,m.c,m.v⟩
 ·have HE:Hid (cH m s=((Mx.z,Mx.z),0)):=xk (by have:mvB m=false:=g1;rw[this];rfl)
  refine zS_ ?_;clear H;intro u5 H
  exact(by rw[HE.out];exact⟨none,none,0,0,rfl,OS.nil _ _,OS.nil _ _,fun g h=>by(cases h),H.O⟩)
 ·cases g2:sdB s
  ·refine zN ?_;clear H;intro u5 H;refine zP (cz s g2 u5) ?_;clear H;intro u6 H;have HE:Hid (cH m s=((Mx.z,Mx.z),0)):=xk (by rw[g2,Bool.and_false])
   refine zS_ ?_;clear H;intro u7 H
   exact(by rw[HE.out];exact⟨none,none,0,0,rfl,OS.nil _ _,OS.nil _ _,fun g h=>by(cases h),H.O⟩)
  ·refine zN ?_;clear H;intro u5 H;refine zP (cz s g2 u5) ?_;clear H;intro u6 H;obtain⟨hsr,hsc⟩:side m.r=true/\side m.c=true:=⟨(cZ (m:=m) g1).2.1,(cZ (m:=m) g1).2.2.1⟩;have HE:Hid (cH m s=((cT m.r m.c s,aE bC m (cT m.r m.c s)),sds s (nm m.r m.c))):=lS (m:=m) g1 g2;obtain⟨R,hR⟩:∃ R,R=cT m.r m.c s:=⟨_,rfl⟩;obtain⟨k,hk⟩:∃ k,k=sds s (nm m.r m.c):=⟨_,rfl⟩;have HRM:Hid (∀ u:World,Calls prog 93 #[.int .i64 m.r,.int .i64 m.c,.int .i64 s] u (fun e w'=>∃ (A:Option Addr) (c:Nat),e= .returned (.tuple #[MV m.r m.c A R.v.length c,.int .i64 k])/\OS w' u.heap.size A R.v.length c R.v/\Below u.heap.size u w')):=by rw[hR,hk];exact fun u=>b9 hsr hsc g2 u
   have hRr:R.r=m.r/\R.c=m.c/\R.v.length<=25:=by rw[hR];exact⟨rfl,rfl,by simp only[cT,aD];exact(zh hsr hsc).2.2⟩
   obtain⟨hRr,hRc,hRl⟩:=hRr;rw[<-hR,<-hk] at HE;obtain⟨D,hD⟩:∃ D,D=aE bC m R:=⟨_,rfl⟩;rw[<-hD] at HE;have HSB:Hid (∀ (u:World) (Ax:Option Addr) (cx:Nat) (Ay:Option Addr) (cy:Nat),SI u Ax m.v.length m.v->SI u Ay R.v.length R.v->Calls prog 94 #[MV m.r m.c Ax m.v.length cx,MV m.r m.c Ay R.v.length cy] u (bD D u)):=fun u Ax cx Ay cy h1 h2=>by
    have h:=jx m.r m.c m.r m.c m.v R.v Ax Ay _ cx _ cy u h1 h2 hmS (by omega)
    rw[hD];have e:(⟨m.r,m.c,R.v⟩:Mx)=R:=by rw[<-hRr,<-hRc]
    rw[e] at h
    exact h
   clear hR hk hsr hsc g1 g2 hD;refine zO (HRM.out u6) ?_;clear H;intro w7 Ar cr u7 H;refine zX (tg [w7.heap.size,w.heap.size]) ?_;clear H;intro S w8 hne H;refine zD ((And.intro (H.c 0) (H.c 4))) ?_;intro G;refine yO (HSB.out w8 Aa ca Ar cr (OS.si (H.o 2)) (OS.si (H.o 1))) ?_;clear H;intro w9 Ad cd H;refine yS ?_;clear H;intro w10 H;refine yN ?_;clear H G;intro u11 H;refine zS_ ?_;clear H;intro u12 H
   exact(by rw[HE.out];exact⟨Ar,Ad,cr,cd,by first|(rw[hRr,hRc];done)|(rw[hRr,hRc];rfl),(H.o 2),(H.o 0),fun g h1 h2=>H.noo 0 2 g h2 h1,H.O⟩)
theorem D9 (W:World) (cs:List Value) (m:Mx) (F:List Nat) (h:mxE.P W cs m F) (hb:mS m) (s:Int):Calls prog 45 #[.agg cs.toArray,.int .i64 s] W (Fh smE (cH m s).1 (cH m s).2 W) :=
 (e_ W cs m F h hb s).mono fun e w' ⟨A,B,c,d,he,h1,h2,h3,hb⟩=>⟨[.int .i64 (cH m s).1.1.r,.int .i64 (cH m s).1.1.c,.slice A (cH m s).1.1.v.length c,.int .i64 (cH m s).1.2.r,.int .i64 (cH m s).1.2.c,.slice B (cH m s).1.2.v.length d],_,he,⟨A,c,B,d,_,_,rfl,MF.aB h1,MF.aB h2,rfl⟩,Fr.app (ek h1) (ek h2) (fun g a b=>h3 g (bz a).2 (bz b).2),hb⟩
end
section
def aP:List Mx->Int->List (Mx×Mx)×Int
 | [],s=>([],s)
 | m::ms,s=>((cH m s).1::(aP ms (cH m s).2).1,(aP ms (cH m s).2).2)
theorem fF:∀ (ms:List Mx) (m:Mx) (s:Int),aP (ms++[m]) s=((aP ms s).1++[(cH m (aP ms s).2).1],(cH m (aP ms s).2).2)
 | [],m,s=>rfl
 | a::ms,m,s=>by simp[aP,fF ms m (cH a s).2]
theorem pL:∀ (ms:List Mx) (s:Int),(aP ms s).1.length=ms.length
 | [],s=>rfl
 | a::ms,s=>by simp[aP,pL ms]
def ov (l:Int×List Mx) (s:Int):(Int×List (Mx×Mx))×Int:=((l.1,(aP l.2 s).1),(aP l.2 s).2)
def eE:List (Int×List Mx)->Int->List (Int×List (Mx×Mx))×Int
 | [],s=>([],s)
 | l::ls,s=>((ov l s).1::(eE ls (ov l s).2).1,(eE ls (ov l s).2).2)
theorem ow:∀ (ls:List (Int×List Mx)) (l:Int×List Mx) (s:Int),eE (ls++[l]) s=((eE ls s).1++[(ov l (eE ls s).2).1],(ov l (eE ls s).2).2)
 | [],l,s=>rfl
 | a::ls,l,s=>by simp[eE,ow ls l (ov a s).2]
theorem Eb:∀ (ls:List (Int×List Mx)) (s:Int),(eE ls s).1.length=ls.length
 | [],s=>rfl
 | a::ls,s=>by simp[eE,Eb ls]
def gH (net:List (Int×List Mx)) (s:Int):Bool:=(net.all fun l=>aL l.1 l.2) && (decide (net.length<=4) && sdB s)
def o_ (net:List (Int×List Mx)) (s:Int):List (Int×List (Mx×Mx))×Int:=if gH net s=true then eE net s else ([],0)
theorem tz {net:List (Int×List Mx)} {s:Int} (h:gH net s=false):o_ net s=([],0):=by unfold o_;rw[h];rfl
theorem tA {net:List (Int×List Mx)} {s:Int} (h:gH net s=true):o_ net s=eE net s:=by unfold o_;rw[h];rfl
theorem rZ {net:List (Int×List Mx)} {s:Int} {k:Nat} {l:Int×List Mx} (hk:net[k]?=some l) (h:aL l.1 l.2=false):gH net s=false:=by
 unfold gH;have:(net.all fun l=>aL l.1 l.2)=false:=List.all_eq_false.2 ⟨l,List.mem_of_getElem? hk,by rw[h];decide⟩
 rw[this,Bool.false_and]
theorem uU {net:List (Int×List Mx)} {s:Int} (h:∀ k l,k<net.length->net[k]?=some l->aL l.1 l.2=true):gH net s=(decide (net.length<=4) && sdB s):=by
 unfold gH;have:(net.all fun l=>aL l.1 l.2)=true:=List.all_eq_true.2 fun l hm=>by
  obtain⟨k,hk⟩:=List.getElem?_of_mem hm
  exact h k l (List.getElem?_eq_some_iff.1 hk).1 hk
 rw[this,Bool.true_and]
def SN (net:List (Int×List Mx)) (s:Int) (w:World) (e:Ending) (w':World):Prop:=∃ A n c css F,e= .returned (.tuple #[.slice A n c,.int .i64 (o_ net s).2])/\OX (kE smE) w' w.heap.size 99 A n c css (o_ net s).1 F/\Below w.heap.size w w'
theorem SN.no {net:List (Int×List Mx)} {s:Int} {w w1:World} (h:gH net s=false) (hb:Below w.heap.size w w1):SN net s w (.returned (.tuple #[.slice (some ⟨w1.heap.size,0,none⟩) 0 0,.int .i64 0])) (w1.alloc (.cells #[] 99)):=by
 refine⟨_,0,0,[],[],by rw[tz h],?_,hb.alloc hb.size _⟩
 rw[tz h]
 exact OX.kG w1 hb.size _
def NI (wo:World) (kd:Int) (ms:List Mx) (s:Int) (wi:World) (j:Nat) (A:Option Addr) (c:Nat):Prop :=
 Blk wi wo.heap.size 99 #[.int .i64 kd,.slice A j c]/\(∃ css F,OX smE wi (wo.heap.size+1) 82 A j c css (aP (ms.take j) s).1 F)/\Below wo.heap.size wo wi
section
variable {wo wi w4 w1:World} {kd s:Int} {ms:List Mx} {j c g cap:Nat} {A:Option Addr} {m:Mx} {o o':Obj} {css:List (List Value)} {F G:List Nat} {ys:List Value}
theorem NI.start (wo:World) (kd:Int) (ms:List Mx) (s:Int):NI wo kd ms s (wo.alloc (.cells #[.int .i64 kd,.slice none 0 0] 99)) 0 none 0 :=
 ⟨Blk.new _ _ _,⟨[],[],OX.nil _ _ _⟩,Qb.alloc Ql _⟩
theorem NI.next (h1:Blk wi wo.heap.size 99 #[.int .i64 kd,.slice A j c]) (hox:OX smE wi (wo.heap.size+1) 82 A j c css (aP (ms.take j) s).1 F) (h3:Below wo.heap.size wo wi) (hb:Below wi.heap.size wi w4)
  (hm:ms[j]?=some m) (hx:smE.P w4 ys (cH m (aP (ms.take j) s).2).1 G) (hf:Fr w4 wi.heap.size G)
  (hown:w1.ownsRow (wo.heap.size+1) 82 smE.s (.slice (some ⟨g,0,none⟩) (j+1) cap) (j+1) (css.flatten++ys))
  (hg:((w4.alloc o').alloc o).grownBy w1 (Value.slice A j c).ownBlock) (hat:(Value.slice A j c).ownBlock=some g\/g=(w4.alloc o').heap.size+1) :
  Blk w1 wo.heap.size 99 #[.int .i64 kd,.slice A j c]/\NI wo kd ms s (w1.setCell ⟨wo.heap.size,1,none⟩ (.slice (some ⟨g,0,none⟩) (j+1) cap)) (j+1) (some ⟨g,0,none⟩) cap:=by
 have hwi:wo.heap.size<wi.heap.size:=h1.lt;have hsz:=hb.size;have hb2:Below wi.heap.size wi (w4.alloc o'):=hb.alloc (by omega) _
 have hd:∀ g',g'∈G->g'∉F/\blk A≠some g':=fun g' hg'=>by
  have:=(hf.2 g' hg').1
  exact⟨fun h=>by have:=hox.lt g' h;omega,fun h=>by have:=(hox.aj g' h).2;omega⟩
 have h3':Below wo.heap.size wo (w4.alloc o'):=h3.trans (hb2.mono (by omega))
 have hks:∀ g',g'∈G->(w4.alloc o').heap[g']?=w4.heap[g']?:=fun g' hg'=>Below.heap_alloc w4 o' g' (hf.lt g' hg')
 obtain⟨k1,k2,k3⟩:=OX.push (hox.below hb2) (smE.au _ _ _ _ _ hx hks) ((hf.mono (by omega)).au hks) hd h3' (by omega) (by simp;omega) hown hg hat
 have k0:=(h1.aa hb2).bR k3 (hox.1.gu h1 (by decide))
 have e:(aP (ms.take (j+1)) s).1=(aP (ms.take j) s).1++[(cH m (aP (ms.take j) s).2).1]:=by rw[aW hm,fF]
 rw[<-e] at k1
 exact⟨k0,k0.dc 1 _,⟨_,_,k1.lX (by dsimp only;omega) _⟩,k2.setCell (by dsimp only;omega) _⟩
end
theorem jP (A:Option Addr) (n cap:Nat) (net:List (Int×List Mx)) (F:List Nat) (s:Int) (w:World) (hx:RI (kE mxE) w A n cap net F) (hs:gG (kS mS) net) :
  Calls prog 91 #[.slice A n cap,.int .i64 s] w (SN net s w):=by
 obtain⟨i0,hi,hz0,hz1,hz2⟩:=info_parts lq;obtain⟨i2,hi2,hy0,hy1,hy2⟩:=info_parts nJ;have bn:n<=1048576:=by rw[<-hx.1];exact hs.1
 have HLN:=Qh hx.1;have HS:=Qh hs.2;have hcall:Calls prog 135 #[.slice A n cap] w (fun e w'=>∃ A1 c1 F1,e= .returned (.slice A1 n c1)/\RI (kE mxE) w' A1 n c1 net F1/\Below w.heap.size w w'):=by
  refine(lN A n cap net F w hx bn hs.2).mono ?_;rintro e w' ⟨A1,c1,F1,he,h1,_,h3⟩;rw[hx.1] at he h1
  exact⟨A1,c1,F1,he,h1,h3⟩
 have HCALL:=Qh hcall;clear hcall hx hs
 go_enter func91,ntmps91
 go_wp2_with fail
 refine HCALL.out.mono ?_;rintro e w1 ⟨A1,c1,F1,rfl,hri,hb⟩;have HR1:=Qh hri;have HB1:=Qh hb;have HLT:Hid (∀ g,g∈F1->g<w1.heap.size):=hri.lt;have hw1:w.heap.size<=w1.heap.size:=hb.size;clear hri hb HCALL;go_wp2
 go_loopw [7] (fun i wr=>∃ k:Nat,k<=n/\i= .int .i64 k/\Hid (Below w1.heap.size (w1.alloc (.cells #[] 99)) wr)/\Hid ((w1.alloc (.cells #[] 99)).heap.size<=wr.heap.size/\Below (w1.heap.size+1) (w1.alloc (.cells #[] 99)) wr)/\Hid (∀ q l,q<k->net[q]?=some l->aL l.1 l.2=true)) (fun i _=>n-(intOf i).toNat)
 case atStart=>exact⟨0,Nat.zero_le _,rfl,Below.refl _ _,⟨Nat.le_refl _,Below.refl _ _⟩,fun q l hq=>absurd hq (by omega)⟩
 case round =>
 obtain⟨k,hk,rfl,hob0,hob1,hval⟩:=hrel;have hzz:(w1.alloc (.cells #[] 99)).heap.size=w1.heap.size+1:=by simp
 have hwr1:w1.heap.size+1<=wr.heap.size:=by have:=hob1.out.1;omega
 have HOB:Hid (Below w1.heap.size w1 wr):=((Below.refl w1.heap.size w1).alloc Ql _).trans hob0.out;have HOW:Hid (Below w.heap.size w wr):=HB1.out.trans (HOB.out.mono hw1);clear hzz
 by_cases hlt:k<n
 ·obtain⟨x,hxk,hmem⟩:=aH (xs:=net) (j:=k) (by have:=HLN.out;omega)
  have HXK:=Qh hxk;obtain⟨hsm,hsx⟩:=HS.out x hmem;have HSX:=Qh hsx;obtain⟨b,off,cs,Fx,rfl,hbl,hc,_,Aw,cw,rfl,hrw⟩:=(HR1.out.below HOB.out).cells hxk 2 rfl;have d0:wr.cell? ⟨b,off+k*2,none⟩=some (.int .i64 x.1):=hc 0 (by omega)
  have d1:wr.cell? ⟨b,off+k*2+1,none⟩=some (.slice Aw x.2.length cw):=hc 1 (by omega)
  have HRW:=Qh hrw;have k0:(0:Int)<=(k:Int):=by omega
  have k1:(k:Int)<(n:Int):=by omega
  clear hc hxk hmem hrw hsx
  go_wp2_with fail
  refine(dx x.1 Aw x.2.length cw x.2 Fx wr HRW.out HSX.out hsm).mono ?_;rintro e w5 ⟨rfl,hb5⟩;have HB5:Hid (Below w1.heap.size (w1.alloc (.cells #[] 99)) w5):=hob0.out.trans (hb5.mono (by omega))
  have HB6:Hid ((w1.alloc (.cells #[] 99)).heap.size<=w5.heap.size/\Below (w1.heap.size+1) (w1.alloc (.cells #[] 99)) w5):=⟨Nat.le_trans hob1.out.1 hb5.size,hob1.out.2.trans (hb5.mono hwr1)⟩;have HW5:Hid (Below w.heap.size w w5):=HOW.out.trans (hb5.mono (by omega))
  clear hb5
  cases hl:aL x.1 x.2
  ·have HFIN:=Qh (SN.no (rZ (s:=s) HXK.out hl) HW5.out);clear hl;go_wp2
   go_ret2
   exact HFIN.out
  ·have HV:Hid (∀ q l,q<k+1->net[q]?=some l->aL l.1 l.2=true):=by
    intro q l hq hl'
    by_cases hqk:q<k
    ·exact hval.out q l hqk hl'
    ·obtain rfl:q=k:=by omega
     rw[HXK.out] at hl';injection hl' with hl';subst hl'
     exact hl
   clear hl hval;go_wp2
   go_roundw
   case rel=>exact⟨k+1,by omega,by go_num,HB5,HB6,HV⟩
   case measure=>simp[intOf];omega
 ·obtain rfl:k=n:=by omega
  have hnv:gH net s=(decide (k<=4) && sdB s):=by
   have:=uU (s:=s) (net:=net) (fun q l hq hl=>hval.out q l (by rw[<-HLN.out];exact hq) hl)
   rw[HLN.out] at this
   exact this
  obtain⟨wb,hwb⟩:∃ wb,wb=wr:=⟨_,rfl⟩;have hv0:=OX.kG (E:=kE smE) w1 Ql 99;have HV0:Hid (∃ css F',OX (kE smE) wr w1.heap.size 99 (some ⟨w1.heap.size,0,none⟩) 0 0 css (eE (net.take 0) s).1 F'):=⟨[],[],hv0.au (by simp;omega) (fun g hl _=>hob1.out.2.block g (by simpa using hl))⟩
  have HRI:Hid (RI (kE mxE) wr A1 k c1 net F1):=HR1.out.below HOB.out;clear hv0 hval hob0 hob1 hwb
  by_cases n4:4<k
  ·have HNO:=Qh (SN.no (by rw[hnv,decide_eq_false (by omega),Bool.false_and]:gH net s=false) HOW.out)
   have t4:(4:Int)<(k:Int):=by omega
   clear hnv;go_wp2
   go_ret2
   exact HNO.out
  have t4:(k:Int)<=4:=by omega
  cases hsd:sdB s
  ·have HNO:=Qh (SN.no (by rw[hnv,hsd,Bool.and_false]:gH net s=false) HOW.out)
   clear hnv
   go_wp2_with fail
   refine Qc (cz s hsd wr) ?_;clear hsd;go_wp2
   go_ret2
   exact HNO.out
  have HEQ:Hid (o_ net s=eE net s):=tA (by rw[hnv,hsd,decide_eq_true (by omega)];rfl)
  clear hnv
  go_wp2_with fail
  refine Qc (cz s hsd wr) ?_;clear hsd;go_wp2
  go_loopw [1,6,8] (fun v1 v i wr=>∃ (q c':Nat) (A':Option Addr),q<=k/\i= .int .i64 q/\v1= .int .i64 (eE (net.take q) s).2/\v= .slice A' q c'/\Hid (∃ css F',OX (kE smE) wr w1.heap.size 99 A' q c' css (eE (net.take q) s).1 F')/\Hid (RI (kE mxE) wr A1 k c1 net F1)/\Hid (Below w.heap.size w wr)/\w1.heap.size+1<=wr.heap.size) (fun _ _ i _=>k-(intOf i).toNat)
  case atStart=>exact⟨0,0,_,Nat.zero_le _,rfl,rfl,rfl,HV0,HRI,HOW,hwr1⟩
  case round =>
  obtain⟨q,cA,A',hq,rfl,rfl,rfl,hox,hri,hob,hw1o⟩:=hrel;clear HV0 HRI HOW HOB hwr1 wb;obtain⟨wo,rfl⟩:∃ u:World,u=wr:=⟨_,rfl⟩
  by_cases hqk:q<k
  ·obtain⟨x,hxk,hmem⟩:=aH (xs:=net) (j:=q) (by have:=HLN.out;omega)
   have HXK:=Qh hxk;obtain⟨hsm,hsx⟩:=HS.out x hmem;have HSX:=Qh hsx;obtain⟨b,off,cs,Fx,rfl,hbl,hc,_,Aw,cw,rfl,hrw⟩:=hri.out.cells hxk 2 rfl;obtain⟨m,hm⟩:∃ m,m=x.2.length:=⟨_,rfl⟩;rw[<-hm] at hc hrw hsm;have HM:=Qh hm;have d0:wo.cell? ⟨b,off+q*2,none⟩=some (.int .i64 x.1):=hc 0 (by omega)
   have d1:wo.cell? ⟨b,off+q*2+1,none⟩=some (.slice Aw m cw):=hc 1 (by omega)
   have HRW:=Qh hrw;have k0:(0:Int)<=(q:Int):=by omega
   have k1:(q:Int)<(k:Int):=by omega
   obtain⟨s0,hs0⟩:∃ s0,s0=(eE (net.take q) s).2:=⟨_,rfl⟩;rw[<-hs0];have HS0:=Qh hs0;have J0:Hid (NI wo x.1 x.2 s0 (wo.alloc (.cells #[.int .i64 x.1,.slice none 0 0] 99)) 0 none 0):=NI.start wo x.1 x.2 s0;clear hc hxk hmem hm hrw hsx hs0;go_wp2
   go_loopw [1,10] (fun v1 i wr=>∃ (j c':Nat) (A'':Option Addr),j<=m/\i= .int .i64 j/\v1= .int .i64 (aP (x.2.take j) s0).2/\Hid (NI wo x.1 x.2 s0 wr j A'' c')) (fun _ i _=>m-(intOf i).toNat)
   case atStart=>exact⟨0,0,none,Nat.zero_le _,rfl,rfl,J0⟩
   case round =>
   obtain⟨j,cI,AI,hj,rfl,rfl,hji⟩:=hrel;clear J0;have cl0:wr.cell? ⟨wo.heap.size,0,none⟩=some (.int .i64 x.1):=hji.out.1.cell 0;have cl1:wr.cell? ⟨wo.heap.size,1,none⟩=some (.slice AI j cI):=hji.out.1.cell 1;have zl:wo.heap.size<wr.heap.size:=hji.out.1.lt;have zb:b<wr.heap.size:=by omega
   have e1:wr.cell? ⟨b,off+q*2+1,none⟩=some (.slice Aw m cw):=(hji.out.2.2.cell (p:=⟨b,off+q*2+1,none⟩) hbl).trans d1
   by_cases hjm:j<m
   ·obtain⟨p,hpj,hpm⟩:=aH (xs:=x.2) (j:=j) (by have:=HM.out;omega)
    have HPJ:=Qh hpj;have hsp:=HSX.out p hpm;obtain⟨b2,off2,cs,Fp,rfl,hbl2,hc,_,hP⟩:=(HRW.out.below hji.out.2.2).cells hpj 3 rfl;have HP:=Qh hP;obtain⟨P1,q1,rfl,hp1⟩:=hP;have a0:wr.cell? ⟨b2,off2+j*3,none⟩=some (.int .i64 p.r):=hc 0 (by omega)
    have a1:wr.cell? ⟨b2,off2+j*3+1,none⟩=some (.int .i64 p.c):=hc 1 (by omega)
    have a2:wr.cell? ⟨b2,off2+j*3+2,none⟩=some (.slice P1 p.v.length q1):=hc 2 (by omega)
    have j0:(0:Int)<=(j:Int):=by omega
    have j1:(j:Int)<(m:Int):=by omega
    clear hc hpj hpm hp1;obtain⟨hB1,⟨css,FI,hoxI⟩,hB3⟩:=hji.out;have HBK:=Qh hB1;have HOXI:=Qh hoxI;have HB3:=Qh hB3;have hcs:=hoxI.dC;clear hB1 hoxI hB3;obtain⟨sj,hsj⟩:∃ sj,sj=(aP (x.2.take j) s0).2:=⟨_,rfl⟩;rw[<-hsj];have HSJ:=Qh hsj;clear hsj
    go_wp2_with fail
    refine(D9 wr _ p _ HP.out hsp sj).mono ?_;rintro e w4 ⟨ds,G,rfl,hQ,hG,hb4⟩;have HQ:=Qh hQ;obtain⟨Ba,da,Bb,db,Ga,Gb,rfl,hn1,hn2,_⟩:=hQ;obtain⟨pp,hpp⟩:∃ pp,pp=cH p sj:=⟨_,rfl⟩;rw[<-hpp] at HQ;rw[<-hpp];have HPP:=Qh hpp;have HG:=Qh hG;have HB4:=Qh hb4;have h4:wr.heap.size<=w4.heap.size:=hb4.size;have cl4:w4.cell? ⟨wo.heap.size,1,none⟩=some (.slice AI j cI):=(HBK.out.aa hb4).cell 1;have zl4:wo.heap.size<w4.heap.size:=by omega
    clear hG hb4 hpp hn1 hn2
    go_wp2_with (at_builtin;refine wpList_append_lies _ rfl _ _ 97 rfl (wo.heap.size+1) 82 i0 (.agg #[.int .i64 0,.int .i64 0,.slice none 0 0,.int .i64 0,.int .i64 0,.slice none 0 0]) 6 80 underlying97 hi hz0 hz1 hz2 rfl (by decide) (.slice AI j cI) j _ rfl (World.ownsRow.alloc (World.ownsRow.alloc (HOXI.out.below HB4.out).1 _) _) ⟨w4.heap.size+1,0,none⟩ 1 1 [.int .i64 pp.1.1.r,.int .i64 pp.1.1.c,.slice Ba pp.1.1.v.length da,.int .i64 pp.1.2.r,.int .i64 pp.1.2.c,.slice Bb pp.1.2.v.length db] rfl rfl ?c1 ?c2 ?c3 ?c4 ?c5 ?c6 (w4.heap.size+1+1) ?c7 ?_)
    case c1 =>
     have h:=dz (w4.alloc (.cells #[.int .i64 pp.1.1.r,.int .i64 pp.1.1.c,.slice Ba pp.1.1.v.length da,.int .i64 pp.1.2.r,.int .i64 pp.1.2.c,.slice Bb pp.1.2.v.length db] 82)) 82 [.int .i64 pp.1.1.r,.int .i64 pp.1.1.c,.slice Ba pp.1.1.v.length da,.int .i64 pp.1.2.r,.int .i64 pp.1.2.c,.slice Bb pp.1.2.v.length db];rw[World.size_alloc] at h
     exact h
    case c2=>intro u hu;simp at hu;rcases hu with rfl|rfl|rfl|rfl|rfl|rfl <;> rfl
    case c3=>omega
    case c4=>unfold maxLen;omega
    case c5=>omega
    case c6=>simp;omega
    case c7=>simp
    intro g cap5 w5 hown hgrow hat hlt5;have hNI:=NI.next (ms:=x.2) (s:=s0) (m:=p) HBK.out HOXI.out HB3.out HB4.out HPJ.out (by rw[<-HSJ.out,<-HPP.out];exact HQ.out) HG.out hown hgrow (hat.imp id (fun h=>by rw[World.size_alloc];exact h))
    have K0:w5.cell? ⟨wo.heap.size,1,none⟩=some (.slice AI j cI):=hNI.1.cell 1;have K1:w5.frozen? ⟨wo.heap.size,1,none⟩=false:=hNI.1.frozen 1;have K2:=Qh hNI.2;have k3:pp.2=(aP (x.2.take (j+1)) s0).2:=by rw[HPP.out,HSJ.out,aW HPJ.out,fF]
    have K3:=Qh k3;clear k3;clear hNI hown hgrow hat HOXI HQ HG HB4 HBK;go_wp2
    go_roundw
    case rel=>exact⟨j+1,cap5,some ⟨g,0,none⟩,by omega,by go_num,by rw[K3.out],K2⟩
    case measure=>simp[intOf];omega
   ·obtain rfl:j=m:=by omega
    obtain⟨hB1,⟨css,FI,hoxI⟩,hB3⟩:=hji.out;rw[List.take_of_length_le (by rw[HM.out];exact Nat.le_refl _)] at hoxI
    obtain⟨F2,hr2,hf2⟩:=hoxI.ri;have HB3:=Qh hB3;have HR2:=Qh hr2;have HF2:=Qh hf2;have HBW:Hid (Below w.heap.size w wr):=hob.out.trans (hB3.mono hob.out.size);clear hB1 hoxI hB3 hr2 hf2 hji;obtain⟨cssO,FO,hoxO⟩:=hox.out;have HOXO:=Qh (hoxO.below HB3.out);have hml:(aP x.2 s0).1.length=j:=by rw[pL,HM.out]
    have HQ:Hid ((kE smE).P wr [.int .i64 x.1,.slice AI j cI] (ov x s0).1 F2):=⟨AI,cI,by simp[ov,hml],by have:=HR2.out;simpa [ov,hml] using this⟩
    have HG:Hid (Fr wr w1.heap.size F2):=HF2.out.mono (by omega)
    have HD:Hid (∀ g,g∈F2->g∉FO/\blk A'≠some g):=fun g hg=>⟨fun h=>by have:=hoxO.lt g h;have:=(HF2.out.2 g hg).1;omega,fun h=>by have:=(hoxO.aj g h).2;have:=(HF2.out.2 g hg).1;omega⟩
    clear hoxO hox hml;have hcq:q<=4:=by omega
    go_wp2_with (at_builtin;refine wpList_append_lies _ rfl _ _ 23 rfl w1.heap.size 99 i2 (.agg #[.int .i64 0,.slice none 0 0]) 2 32 underlying23 hi2 hy0 hy1 hy2 rfl (by decide) (.slice A' q cA) q _ rfl (World.ownsRow.alloc HOXO.out.1 _) ⟨wr.heap.size,0,none⟩ 1 1 [.int .i64 x.1,.slice AI j cI] rfl rfl ?c1 ?c2 ?c3 ?c4 ?c5 ?c6 (wr.heap.size+1) ?c7 ?_)
    case c1=>exact dz wr _ _
    case c2=>intro u hu;simp at hu;rcases hu with rfl|rfl <;> rfl
    case c3=>omega
    case c4=>unfold maxLen;omega
    case c5=>omega
    case c6=>simp;omega
    case c7=>simp
    intro g cap6 w6 hown hgrow hat hlt6;obtain⟨r1,r2,r3⟩:=OX.push HOXO.out HQ.out HG.out HD.out HBW.out hw1 (by omega) hown hgrow hat
    have he:(eE (net.take (q+1)) s)=((eE (net.take q) s).1++[(ov x s0).1],(ov x s0).2):=by rw[aW HXK.out,ow,<-HS0.out]
    have K1:Hid (∃ css F',OX (kE smE) w6 w1.heap.size 99 (some ⟨g,0,none⟩) (q+1) cap6 css (eE (net.take (q+1)) s).1 F'):=by rw[he];exact⟨_,_,r1⟩
    have K2:=Qh r2;have K3:Hid (RI (kE mxE) w6 (some ⟨b,off,none⟩) k c1 net F1):=(hri.out.below HB3.out).au fun g' hg'=>r3.block g' ((hri.out.below HB3.out).lt g' hg') (fun e=>by have:=(HOXO.out.aj g' e.symm).1;have:=HLT.out g' hg';omega)
    have k4:(aP (x.2.take j) s0).2=(eE (net.take (q+1)) s).2:=by rw[he,List.take_of_length_le (by rw[HM.out];exact Nat.le_refl _)];rfl
    have K4:=Qh k4;clear k4;have hw6:w1.heap.size+1<=w6.heap.size:=by have:=r3.size;omega
    clear r1 r2 r3 he hown hgrow hat HOXO HQ HG HD HBW;go_wp2
    go_roundw
    case rel=>exact⟨q+1,cap6,_,by omega,by go_num,by rw[K4.out],rfl,K1,K3,K2,hw6⟩
    case measure=>simp[intOf];omega
  ·obtain rfl:q=k:=by omega
   obtain⟨css,F',hox'⟩:=hox.out;rw[List.take_of_length_le (by rw[HLN.out];exact Nat.le_refl _),<-HEQ.out] at hox'
   have HSN:Hid (SN net s w (.returned (.tuple #[.slice A' q cA,.int .i64 (eE (net.take q) s).2])) wo):=by
    refine⟨A',q,cA,css,F',?_,hox'.mono hw1,hob.out⟩;rw[List.take_of_length_le (by rw[HLN.out];exact Nat.le_refl _),HEQ.out]
   clear hox' hox;go_wp2
   go_ret2
   exact HSN.out
end
theorem EC (m:Mx) (s:Int):smS (cH m s).1:=by
 unfold smS mS
 cases h:(mvB m && sdB s)
 ·rw[xk h];exact⟨by simp[Mx.z],by simp[Mx.z]⟩
 ·simp only[Bool.and_eq_true] at h;rw[lS h.1 h.2];obtain⟨h1,h2,h3,_⟩:=cZ h.1;have hn:=(zh h2 h3).2.2;refine⟨by simp only[cT,aD];omega,?_⟩
  dsimp only
  cases hl:az m (cT m.r m.c s)
  ·rw[ib hl];simp[Mx.z]
  ·rw[fi hl];have:=(bt hl).2.2;simp only[aD]
   omega
theorem DO:∀ (ms:List Mx) (s:Int) (p:Mx×Mx),p∈(aP ms s).1->smS p
 | [],s,p,h=>by cases h
 | m::ms,s,p,h=>by
  rcases List.mem_cons.1 h with rfl|h
  ·exact EC m s
  ·exact DO ms _ p h
theorem DP:∀ (net:List (Int×List Mx)) (s:Int),(∀ l,l∈net->l.2.length<=3)->∀ l,l∈(eE net s).1->kS smS l
 | [],s,_,l,h=>by cases h
 | a::net,s,hl,l,h=>by
  rcases List.mem_cons.1 h with rfl|h
  ·refine⟨?_,fun p hp=>DO _ _ p hp⟩
   have:=hl a (List.mem_cons_self ..);simp only[ov,pL]
   omega
  ·exact DP net _ (fun l hl'=>hl l (List.mem_cons_of_mem _ hl')) l h
theorem ED {net:List (Int×List Mx)} {s:Int} (hn:net.length<=3) (hl:∀ l,l∈net->l.2.length<=3):gG (kS smS) (o_ net s).1/\(o_ net s).1.length<=3:=by
 cases h:gH net s
 ·rw[tz h]
  exact⟨⟨by simp,fun p hp=>by cases hp⟩,by simp⟩
 ·rw[tA h];have e:=Eb net s
  exact⟨⟨by omega,DP net s hl⟩,by omega⟩
def DSN (w:World) (rb P:Nat) (e:Ending) (w':World):Prop:=∃ A n c xs F,e= .returned (.slice A n c)/\RI (kE smE) w' A n c xs F/\Fr w' w.heap.size F/\gG (kS smS) xs/\n<=5/\Rd w' rb P/\aZ rb w w'
theorem EW (W:World):dJ smE W [[.int .i64 0,.int .i64 0,.slice none 0 0,.int .i64 0,.int .i64 0,.slice none 0 0],[.int .i64 0,.int .i64 0,.slice none 0 0,.int .i64 0,.int .i64 0,.slice none 0 0]] [(Mx.z,Mx.z),(Mx.z,Mx.z)] [] :=
 ⟨[],[],rfl,⟨none,0,none,0,[],[],rfl,⟨SI.nil _ _,Nat.le_refl _,by unfold maxLen;omega,rfl⟩,⟨SI.nil _ _,Nat.le_refl _,by unfold maxLen;omega,rfl⟩,rfl⟩,⟨[],[],rfl,⟨none,0,none,0,[],[],rfl,⟨SI.nil _ _,Nat.le_refl _,by unfold maxLen;omega,rfl⟩,⟨SI.nil _ _,Nat.le_refl _,by unfold maxLen;omega,rfl⟩,rfl⟩,rfl⟩⟩
theorem Fo (W:World) {base:Nat} (hb:base<=W.heap.size):∃ F,RI smE (W.alloc (.cells #[.int .i64 0,.int .i64 0,.slice none 0 0,.int .i64 0,.int .i64 0,.slice none 0 0,.int .i64 0,.int .i64 0,.slice none 0 0,.int .i64 0,.int .i64 0,.slice none 0 0] 82)) (some ⟨W.heap.size,0,none⟩) 2 2 [(Mx.z,Mx.z),(Mx.z,Mx.z)] F/\Fr (W.alloc (.cells #[.int .i64 0,.int .i64 0,.slice none 0 0,.int .i64 0,.int .i64 0,.slice none 0 0,.int .i64 0,.int .i64 0,.slice none 0 0,.int .i64 0,.int .i64 0,.slice none 0 0] 82)) W.heap.size F:=by
 have:=OX.lit W Ql 82 (EW W) (Fr.nil W W.heap.size) (by unfold maxLen;simp)
 simpa using this.ri
theorem DW (rb P:Nat) (rows cols nn:Int) (hr:1<=rows/\rows<=5) (hc:1<=cols/\cols<=5) (hnn:0<=nn/\nn<=1000000) (w:World) (h:Rd w rb P) (hP:P<100000) :
  Calls prog 73 #[.pointer (some ⟨rb,0,none⟩),.int .i64 rows,.int .i64 cols,.int .i64 nn] w (DSN w rb (P+4020)):=by
 obtain⟨i2,hi2,hy0,hy1,hy2⟩:=info_parts nJ;have hrw:=h.lt
 go_enter func73,ntmps73
 go_wp2_with fail
 refine(EL rb P rows cols hr hc w h hP).mono ?_;rintro e w1 ⟨A1,n1,c1,ls,F1,rfl,hri,hfr,hn1,hls,r1,o1⟩
 go_wp2_with fail
 refine(Ea rb (P+4000) 0 (by omega) w1 r1 (by omega)).mono ?_
 rintro e w2 ⟨sd,rfl,r2,o2⟩;have HR1:=Qh (hri.only o2 (hfr.not hrw));have HLS:=Qh hls;have HN1:=Qh hri.1;clear hri hfr hls
 go_wp2_with fail
 refine(jP A1 n1 c1 ls F1 sd w2 HR1.out ⟨by rw[HN1.out];omega,fun l hl=>⟨by have:=(HLS.out l hl).1;omega,fun m hm=>by have:=(HLS.out l hl).2 m hm;unfold mS;omega⟩⟩).mono ?_
 rintro e w3 ⟨A,n,c,css,FO,rfl,hox,hb3⟩;obtain⟨hsm,hsl⟩:=ED (net:=ls) (s:=sd) (by rw[HN1.out];exact hn1) (fun l hl=>(HLS.out l hl).1)
 obtain⟨xs,hxs⟩:∃ xs,xs=(o_ ls sd).1:=⟨_,rfl⟩;rw[<-hxs] at hox hsm hsl;have hn3:n<=3:=by rw[<-hox.2.1];exact hsl
 have hw2:w.heap.size<=w2.heap.size:=(o1.trans o2).size;have HOX3:=Qh (hox.mono hw2);have HSM:=Qh hsm;have HO3:Hid (aZ rb w w3):=(o1.trans o2).below hb3;have HR3:=Qh (r2.below hb3);clear hox hb3 hsm hsl hxs r1 r2 o1 o2 h HR1 HLS hn1
 go_wp2_with fail
 refine(EG rb (P+4000+3) nn hnn w3 HR3.out (by omega)).mono ?_
 rintro e w4 ⟨od,rfl,r4,o4⟩;have HOX4:=Qh (HOX3.out.only o4 hrw);have HO4:Hid (aZ rb w w4):=HO3.out.trans o4;have HR4:=Qh r4;have hw4:w.heap.size<=w4.heap.size:=HO4.out.size;clear r4 o4 HOX3 HO3 HR3
 cases od
 ·have HN:Hid (DSN w rb (P+4020) (.returned (.slice A n c)) w4):=by
   obtain⟨F2,h1,h2⟩:=HOX4.out.ri
   exact⟨_,_,_,_,F2,rfl,h1,h2,HSM.out,by omega,HR4.out.mono (by omega),HO4.out⟩
  go_wp2
  exact bodyPost_ret (v:= .slice A n c) (by simp[results,results73,go_sem]) rfl HN.out
 go_wp2_with fail
 refine(FE rb (P+4000+3+1) 3 w4 HR4.out (by omega)).mono ?_
 rintro e w5 ⟨q,rfl,q0,q1,r5,o5⟩;have HOX5:=Qh (HOX4.out.only o5 hrw);have HO5:Hid (aZ rb w w5):=HO4.out.trans o5;have HR5:=Qh r5;have hw5:w.heap.size<=w5.heap.size:=HO5.out.size;have hq:q=0\/q=1\/q=2:=by omega
 clear r5 o5 HOX4 HO4 HR4 q0 q1;rcases hq with rfl|rfl|rfl
 ·go_wp2_with fail
  refine(FE rb (P+4000+3+1+1) 3 _ (HR5.out.alloc _) (by omega)).mono ?_
  rintro e w6 ⟨v,rfl,v0,v1,r6,o6⟩;have v2:v<3:=by omega
  clear v1;obtain⟨kd,hkd,d0,d1⟩:=FG [0,1,3] 0 3 (by simp) v v0 (by simp;omega)
  have hrl5:=HR5.out.lt;have hcx:w6.cell? ⟨w5.heap.size,v.toNat,none⟩=some (.int .i64 kd):=by
   rw[o6.cell (by simp) (by omega)]
   have:=kr w5 [0,1,3] 3 v.toNat;rw[hkd] at this
   exact this
  have HOX:=Qh ((HOX5.out.alloc (.cells #[.int .i64 0,.int .i64 1,.int .i64 3] 3)).only o6 hrw);have HO:Hid (aZ rb w w6):=(HO5.out.alloc _).trans o6;have HRD:=Qh r6;have hw6:w.heap.size<=w6.heap.size:=HO.out.size;have hz6:w5.heap.size<w6.heap.size:=by have:=o6.size;simp at this;omega
  clear r6 o6 hkd HOX5 HO5 HR5;have hal0:Below w6.heap.size w6 w6:=Below.refl _ _;have hzb:w6.heap.size=w6.heap.size:=rfl;have HQ:Hid ((kE smE).P w6 [.int .i64 kd,.slice none 0 0] ((kd,[]):Int×List (Mx×Mx)) ([]:List Nat)):=⟨none,0,rfl,RI.nil _ none (by unfold maxLen;omega)⟩
  have HGF:Hid (Fr w6 w.heap.size ([]:List Nat)):=Fr.nil _ _;have HD:Hid (∀ g,g∈([]:List Nat)->g∉FO/\blk A≠some g):=fun g hg=>by cases hg
  go_wp2_with (at_builtin;refine wpList_append_lies _ rfl _ _ 23 rfl w.heap.size 99 i2 (.agg #[.int .i64 0,.slice none 0 0]) 2 32 underlying23 hi2 hy0 hy1 hy2 rfl (by decide) (.slice A n c) n _ rfl (World.ownsRow.alloc (HOX.out.below hal0).1 _) ⟨w6.heap.size,0,none⟩ 1 1 [.int .i64 kd,.slice none 0 0] rfl rfl ?c1 ?c2 ?c3 ?c4 ?c5 ?c6 (w6.heap.size+1) ?c7 ?_)
  case c1 =>
   have h:=dz w6 99 [.int .i64 kd,.slice none 0 0]
   exact h
  case c2=>intro u hu;simp at hu;rcases hu with rfl|rfl <;> rfl
  case c3=>omega
  case c4=>unfold maxLen;omega
  case c5=>omega
  case c6=>simp;omega
  case c7=>simp
  intro g cap5 w9 hown hgrow hat hlt5;obtain⟨k1,_,k3⟩:=OX.push (HOX.out.below hal0) HQ.out HGF.out HD.out (Below.refl w.heap.size _) Ql hw6 hown hgrow hat;have hw9:w6.heap.size<=w9.heap.size:=k3.size;have KO:Hid (aZ w.heap.size w w9->True):=fun _=>trivial
  have K2:Hid (aZ rb w w9):=⟨k3.os.trans (HO.out.trans (aZ.eW hal0)).os,k3.tape.trans (HO.out.trans (aZ.eW hal0)).tape,k3.output.trans (HO.out.trans (aZ.eW hal0)).output,Nat.le_trans (HO.out.trans (aZ.eW hal0)).size k3.size,fun i hi hne=>(k3.block i (by omega) (fun e=>by have:=(HOX.out.aj i e.symm).1;omega)).trans ((HO.out.trans (aZ.eW hal0)).block i hi hne)⟩
  have K3:Hid (Rd w9 rb (P+4000+3+1+1+1)):=(HRD.out.below hal0).au (fun i hi=>k3.block i (by omega) (fun e=>by have:=(HOX.out.aj i e.symm).1;omega))
  have HN:Hid (DSN w rb (P+4020) (.returned (.slice (some ⟨g,0,none⟩) (n+1) cap5)) w9):=by
   obtain⟨F2,h1,h2⟩:=k1.ri
   exact⟨_,_,_,_,F2,rfl,h1,h2,⟨by have:=HOX.out.2.1;rw[List.length_append,this];simp;omega,fun p hp=>by
    rcases List.mem_append.1 hp with hp|hp
    ·exact HSM.out.2 p hp
    ·have e:p=((kd,[]):Int×List (Mx×Mx)):=by simpa using hp
     subst e
     exact⟨by simp,fun p hp=>by cases hp⟩⟩,by omega,K3.out.mono (by omega),K2.out⟩
  clear k1 k3 hown hgrow hat HOX HQ HD HGF HRD HO K2 K3 KO;go_wp2
  exact bodyPost_ret (v:= .slice (some ⟨g,0,none⟩) (n+1) cap5) (by simp[results,results73,go_sem]) rfl HN.out
 ·have HOX:=Qh HOX5.out;have HO:=Qh HO5.out;have HRD:=Qh HR5.out;obtain⟨FZ,hrz,hfz⟩:=Fo w5 (Nat.le_refl w5.heap.size);have HRZ:=Qh hrz;have HFZ:=Qh hfz;clear hrz hfz HOX5 HO5 HR5;have hal0:Below w5.heap.size w5 (w5.alloc (.cells #[.int .i64 0,.int .i64 0,.slice none 0 0,.int .i64 0,.int .i64 0,.slice none 0 0,.int .i64 0,.int .i64 0,.slice none 0 0,.int .i64 0,.int .i64 0,.slice none 0 0] 82)):=(Qb.alloc (by simp) _)
  have hzb:(w5.alloc (.cells #[.int .i64 0,.int .i64 0,.slice none 0 0,.int .i64 0,.int .i64 0,.slice none 0 0,.int .i64 0,.int .i64 0,.slice none 0 0,.int .i64 0,.int .i64 0,.slice none 0 0] 82)).heap.size=w5.heap.size+1:=by simp
  have HQ:Hid ((kE smE).P (w5.alloc (.cells #[.int .i64 0,.int .i64 0,.slice none 0 0,.int .i64 0,.int .i64 0,.slice none 0 0,.int .i64 0,.int .i64 0,.slice none 0 0,.int .i64 0,.int .i64 0,.slice none 0 0] 82)) [.int .i64 1,.slice (some ⟨w5.heap.size,0,none⟩) 2 2] ((1,[(Mx.z,Mx.z),(Mx.z,Mx.z)]):Int×List (Mx×Mx)) FZ):=⟨_,2,rfl,HRZ.out⟩;have HGF:Hid (Fr (w5.alloc (.cells #[.int .i64 0,.int .i64 0,.slice none 0 0,.int .i64 0,.int .i64 0,.slice none 0 0,.int .i64 0,.int .i64 0,.slice none 0 0,.int .i64 0,.int .i64 0,.slice none 0 0] 82)) w.heap.size FZ):=HFZ.out.mono hw5;have HD:Hid (∀ g,g∈FZ->g∉FO/\blk A≠some g):=fun g hg=>⟨fun h=>by have:=HOX.out.lt g h;have:=(HFZ.out.2 g hg).1;omega,fun h=>by have:=(HOX.out.aj g h).2;have:=(HFZ.out.2 g hg).1;omega⟩
  go_wp2_with (at_builtin;refine wpList_append_lies _ rfl _ _ 23 rfl w.heap.size 99 i2 (.agg #[.int .i64 0,.slice none 0 0]) 2 32 underlying23 hi2 hy0 hy1 hy2 rfl (by decide) (.slice A n c) n _ rfl (World.ownsRow.alloc (HOX.out.below hal0).1 _) ⟨w5.heap.size+1,0,none⟩ 1 1 [.int .i64 1,.slice (some ⟨w5.heap.size,0,none⟩) 2 2] rfl rfl ?c1 ?c2 ?c3 ?c4 ?c5 ?c6 (w5.heap.size+1+1) ?c7 ?_)
  case c1 =>
   have h:=dz (w5.alloc (.cells #[.int .i64 0,.int .i64 0,.slice none 0 0,.int .i64 0,.int .i64 0,.slice none 0 0,.int .i64 0,.int .i64 0,.slice none 0 0,.int .i64 0,.int .i64 0,.slice none 0 0] 82)) 99 [.int .i64 1,.slice (some ⟨w5.heap.size,0,none⟩) 2 2];rw[hzb] at h
   exact h
  case c2=>intro u hu;simp at hu;rcases hu with rfl|rfl <;> rfl
  case c3=>omega
  case c4=>unfold maxLen;omega
  case c5=>omega
  case c6=>simp;omega
  case c7=>simp
  intro g cap5 w9 hown hgrow hat hlt5;obtain⟨k1,_,k3⟩:=OX.push (HOX.out.below hal0) HQ.out HGF.out HD.out (Below.refl w.heap.size _) Ql (by rw[hzb];omega) hown hgrow (hat.imp id (fun h=>by rw[hzb];exact h))
  have hw9:(w5.alloc (.cells #[.int .i64 0,.int .i64 0,.slice none 0 0,.int .i64 0,.int .i64 0,.slice none 0 0,.int .i64 0,.int .i64 0,.slice none 0 0,.int .i64 0,.int .i64 0,.slice none 0 0] 82)).heap.size<=w9.heap.size:=k3.size;have KO:Hid (aZ w.heap.size w w9->True):=fun _=>trivial
  have K2:Hid (aZ rb w w9):=⟨k3.os.trans (HO.out.trans (aZ.eW hal0)).os,k3.tape.trans (HO.out.trans (aZ.eW hal0)).tape,k3.output.trans (HO.out.trans (aZ.eW hal0)).output,Nat.le_trans (HO.out.trans (aZ.eW hal0)).size k3.size,fun i hi hne=>(k3.block i (by rw[hzb];omega) (fun e=>by have:=(HOX.out.aj i e.symm).1;omega)).trans ((HO.out.trans (aZ.eW hal0)).block i hi hne)⟩
  have K3:Hid (Rd w9 rb (P+4000+3+1+1)):=(HRD.out.below hal0).au (fun i hi=>k3.block i (by rw[hzb];omega) (fun e=>by have:=(HOX.out.aj i e.symm).1;omega))
  have HN:Hid (DSN w rb (P+4020) (.returned (.slice (some ⟨g,0,none⟩) (n+1) cap5)) w9):=by
   obtain⟨F2,h1,h2⟩:=k1.ri
   exact⟨_,_,_,_,F2,rfl,h1,h2,⟨by have:=HOX.out.2.1;rw[List.length_append,this];simp;omega,fun p hp=>by
    rcases List.mem_append.1 hp with hp|hp
    ·exact HSM.out.2 p hp
    ·have e:p=((1,[(Mx.z,Mx.z),(Mx.z,Mx.z)]):Int×List (Mx×Mx)):=by simpa using hp
     subst e
     exact⟨by simp,fun p hp=>by simp at hp;subst hp;exact⟨by simp[mS,Mx.z],by simp[mS,Mx.z]⟩⟩⟩,by omega,K3.out.mono (by omega),K2.out⟩
  clear k1 k3 hown hgrow hat HOX HQ HD HGF HRD HO K2 K3 KO;go_wp2
  exact bodyPost_ret (v:= .slice (some ⟨g,0,none⟩) (n+1) cap5) (by simp[results,results73,go_sem]) rfl HN.out
 ·have H0:Hid (∃ css F',FX (kE smE) (w5.alloc (.cells (madeCells ZL (5*ZL.size)) 99)) w5.heap.size 99 w5.heap.size 5 css (List.replicate (5-0) ZL.toList).flatten (List.replicate 0 ((2,[]):Int×List (Mx×Mx))) F'):=⟨_,_,FX.made w5 _ ZL (by decide) rfl 5 (by unfold maxLen;omega)⟩
  have B0:Hid (Below w5.heap.size w5 (w5.alloc (.cells (madeCells ZL (5*ZL.size)) 99))):=Qb.alloc Ql _;have hmk:=fun W:World=>zf 5 (by omega) W
  obtain⟨O,hO⟩:∃ O,O=(Obj.cells (madeCells ZL (5*ZL.size)) 99):=⟨_,rfl⟩;rw[<-hO] at H0 B0 hmk;have hmk5:∀ W:World,(Instr.makeSlice 23 (.int .i64 5) (.int .i64 5)).run prog W= .ok (.slice (some ⟨W.heap.size,0,none⟩) 5 5) (W.alloc O):=hmk;clear hO hmk;go_wp2
  go_loopw [11] (fun i wr=>∃ j:Nat,j<=5/\i= .int .i64 j/\Hid (∃ css F',FX (kE smE) wr w5.heap.size 99 w5.heap.size 5 css (List.replicate (5-j) ZL.toList).flatten (List.replicate j ((2,[]):Int×List (Mx×Mx))) F')/\Hid (Below w5.heap.size w5 wr)) (fun i _=>5-(intOf i).toNat)
  case atStart=>exact⟨0,Nat.zero_le _,rfl,H0,B0⟩
  case round =>
  obtain⟨j,hj,rfl,hfx,hob⟩:=hrel;clear H0 B0 hmk5
  by_cases hlt:j<5
  ·obtain⟨css,FO,hF⟩:=hfx.out;have hgl:w5.heap.size<wr.heap.size:=hF.glt.2;have hnk:(List.replicate (5-j) ZL.toList).flatten= .int .i64 0 :: .slice none 0 0::(List.replicate (5-(j+1)) ZL.toList).flatten:=by
    rw[show 5-j=(5-(j+1))+1 by omega,List.replicate_succ,List.flatten_cons]
    rfl
   rw[hnk] at hF;have hpl:css.flatten.length=j*2:=by
    rw[dS hF.2.1,List.length_replicate]
    rfl
   have i0:(0:Int)<=(j:Int):=by omega
   have i1:(j:Int)<5:=by omega
   have c0:wr.cell? ⟨w5.heap.size,j*2,none⟩=some (.int .i64 0):=eG (a:=[]) hF.1 (by rw[hpl];rfl)
   have f0:wr.frozen? ⟨w5.heap.size,j*2,none⟩=false:=hF.1.frozen _;have hv6:=FX.put (E:=kE smE) (a:=[]) (pre:=css.flatten) (b:= .slice none 0 0::(List.replicate (5-(j+1)) ZL.toList).flatten) hF.1 (j:=j*2) (by rw[hpl];rfl) (.int .i64 2)
   have HFO:=Qh hF;have HV6:=Qh hv6;clear hF hnk hpl hv6 hfx;go_wp2;obtain⟨w6,hw6⟩:∃ u,u=wr.setCell ⟨w5.heap.size,j*2,none⟩ (.int .i64 2):=⟨_,rfl⟩;have K2:Hid (Below w5.heap.size w5 w6):=by rw[hw6];exact hob.out.setCell (by dsimp only;omega) _
   have K1:Hid (∃ css F',FX (kE smE) w6 w5.heap.size 99 w5.heap.size 5 css (List.replicate (5-(j+1)) ZL.toList).flatten (List.replicate (j+1) ((2,[]):Int×List (Mx×Mx))) F'):=by
    have hF:=HFO.out;have hE:∀ g',g'≠w5.heap.size->w6.heap[g']?=wr.heap[g']?:=fun g' hne=>by rw[hw6];exact Below.heap_setCell _ _ _ g' (by dsimp only;omega)
    have hv6:=HV6.out;rw[<-hw6] at hv6;have:=FX.step (E:=kE smE) (css:=css) (g:=w5.heap.size) (ys:=[.int .i64 2,.slice none 0 0]) (x:=(2,[])) (F1:=[]) hv6 hF.2.1 hF.2.2.1 hF.2.2.2 (fun g' hg'=>hE g' (fun e=>hF.2.2.2 (by rw[<-e];exact hg'))) ⟨none,0,rfl,RI.nil _ none (by unfold maxLen;omega)⟩ (Fr.nil _ _) (fun g' hg'=>by cases hg')
    rw[<-List.replicate_succ'] at this
    exact⟨_,_,this⟩
   rw[<-hw6];clear hw6 HV6
   go_roundw
   case rel=>exact⟨j+1,by omega,by go_num,K1,K2⟩
   case measure=>simp[intOf];omega
  ·obtain rfl:j=5:=by omega
   have HN:Hid (DSN w rb (P+4020) (.returned (.slice (some ⟨w5.heap.size,0,none⟩) 5 5)) wr):=by
    obtain⟨css,F',hF⟩:=hfx.out;obtain⟨F2,hr2,hf2⟩:=FX.ri hF (by simp)
    exact⟨_,_,_,_,F2,rfl,hr2,hf2.mono hw5,⟨by simp,fun p hp=>by rw[List.eq_of_mem_replicate hp];exact⟨by simp,fun q hq=>by cases hq⟩⟩,by omega,(HR5.out.below hob.out).mono (by omega),HO5.out.below hob.out⟩
   clear hfx;go_wp2
   exact bodyPost_ret (v:= .slice (some ⟨w5.heap.size,0,none⟩) 5 5) (by simp[results,results73,go_sem]) rfl HN.out
theorem dJ.take {α:Type} {E:Elt α} {w:World}:∀ {css:List (List Value)} {xs:List α} {F:List Nat} (m:Nat),dJ E w css xs F->∃ F',dJ E w (css.take m) (xs.take m) F'/\∀ g,g∈F'->g∈F
 | [],[],F,m,h=>⟨[],by simp[dJ],fun g hg=>by cases hg⟩
 | _::_,_::_,F,0,h=>⟨[],rfl,fun g hg=>by cases hg⟩
 | c::css,x::xs,F,m+1,⟨F1,F2,e,h1,h2⟩=>by
  obtain⟨F',h3,h4⟩:=h2.take m
  exact⟨F1++F',⟨F1,F',rfl,h1,h3⟩,fun g hg=>by
   rw[e];rcases List.mem_append.1 hg with h|h
   ·exact List.mem_append_left _ h
   ·exact List.mem_append_right _ (h4 g h)⟩
theorem RI.take {α:Type} {E:Elt α} {w:World} {A:Option Addr} {n cap:Nat} {xs:List α} {F:List Nat} (h:RI E w A n cap xs F) {m:Nat} (hm:m<=n):∃ F',RI E w A m cap (xs.take m) F'/\∀ g,g∈F'->g∈F:=by
 obtain⟨h1,h2,h3,h4⟩:=h;have hl:(xs.take m).length=m:=by rw[List.length_take,h1];omega
 rcases h4 with⟨h0,rfl⟩|⟨b,off,css,F',e,hb,rfl,he,hc⟩
 ·exact⟨[],⟨hl,by omega,h3,.inl ⟨by omega,rfl⟩⟩,fun g hg=>by cases hg⟩
 ·obtain⟨F2,h5,h6⟩:=he.take m;refine⟨b::F2,⟨hl,by omega,h3,.inr ⟨b,off,css.take m,F2,e,hb,rfl,h5,fun i cs hi j hj=>hc i cs ?_ j hj⟩⟩,fun g hg=>?_⟩
  ·rw[List.getElem?_take] at hi
   split at hi
   ·exact hi
   ·cases hi
  ·rcases List.mem_cons.1 hg with rfl|hg
   ·exact List.mem_cons_self ..
   ·exact List.mem_cons_of_mem _ (h6 g hg)
def DSv (w:World) (rb P:Nat) (e:Ending) (w':World):Prop:=∃ (A:Option Addr) (c:Nat) (x:List (Int×List (Mx×Mx))×Int) (F:List Nat),e= .returned (.agg #[.slice A x.1.length c,.int .i64 x.2])/\RI (kE smE) w' A x.1.length c x.1 F/\(∀ g,g∈F->w.heap.size<g)/\svS x/\Rd w' rb P/\aZ rb w w'
theorem Ei (rb P:Nat) (nn:Int) (hnn:0<=nn/\nn<=1000000) (w:World) (h:Rd w rb P) (hP:P<90000):Calls prog 32 #[.pointer (some ⟨rb,0,none⟩),.int .i64 nn] w (DSv w rb (P+4100)):=by
 have hrw:=h.lt;have hlt0:w.heap.size<(w.alloc (.cells #[.slice none 0 0,.int .i64 0] 25)).heap.size:=by simp
 have b_0:Blk (w.alloc (.cells #[.slice none 0 0,.int .i64 0] 25)) w.heap.size 25 #[.slice none 0 0,.int .i64 0]:=Blk.new _ _ _
 go_enter func32,ntmps32
 go_wp2_with fail
 refine(FE rb P 2 _ (h.alloc _) (by omega)).mono ?_
 rintro e w1 ⟨a,rfl,a0,a1,r1,o1⟩;have a2:a<=1:=by omega
 have b_1:=b_0.only o1 (by omega)
 have t_1:aZ rb w w1:=((aZ.refl rb w).alloc _).trans o1;clear a1 h o1 b_0 hlt0
 go_wp2_with fail
 refine(FE rb (P+1) 2 _ r1 (by omega)).mono ?_
 rintro e w2 ⟨b,rfl,b0,b1,r2,o2⟩;have b2:b<=1:=by omega
 have b_2:=b_1.only o2 (by omega)
 have t_2:=t_1.trans o2;have q2:w.heap.size<w2.heap.size:=b_2.lt;have ha:=IntWalk.i64_in (1+a) (by omega)
 have hb:=IntWalk.i64_in (1+b) (by omega)
 clear b1 r1 o2 b_1 t_1
 go_wp2_with fail
 refine(DW rb (P+1+1) (1+a) (1+b) nn (by omega) (by omega) hnn w2 r2 (by omega)).mono ?_
 rintro e w3 ⟨A,n,c,xs,F,rfl,hri,hfr,hsm,hn5,r3,o3⟩;have b_3:=b_2.only o3 (by omega)
 have t_3:=t_2.trans o3;clear r2 o3 b_2 t_2
 go_wp2_with fail
 refine(Ea rb (P+1+1+4020) nn hnn w3 r3 (by omega)).mono ?_
 rintro e w4 ⟨sd,rfl,r4,o4⟩;have B4:=Qh (b_3.only o4 (by omega))
 have T4:=Qh (t_3.trans o4);have HFG:Hid (∀ g,g∈F->w.heap.size<g):=fun g hg=>by have:=(hfr.2 g hg).1;omega
 have HRI:=Qh (hri.only o4 (hfr.not (by omega)))
 have HSM:=Qh hsm;have HR4:=Qh r4;have z4:w.heap.size<w4.heap.size:=(b_3.only o4 (by omega)).lt
 clear r3 o4 b_3 t_3 hri hfr hsm r4;have c40:w4.cell? ⟨w.heap.size,0,none⟩=some (.slice none 0 0):=B4.out.cell 0;have c41:w4.cell? ⟨w.heap.size,1,none⟩=some (.int .i64 0):=B4.out.cell 1;have f40:w4.frozen? ⟨w.heap.size,0,none⟩=false:=B4.out.frozen 0;have f41:w4.frozen? ⟨w.heap.size,1,none⟩=false:=B4.out.frozen 1
 by_cases hn2:2<n
 ·have hn2':(2:Int)<(n:Int):=by omega
  have hc2:2<=c:=by have:=HRI.out.2.1;omega
  obtain⟨x0,hx0,_⟩:=aH (xs:=xs) (j:=0) (by have:=HRI.out.1;omega)
  obtain⟨bb,off,_,_,rfl,_⟩:=HRI.out.at hx0;obtain⟨F2,h2,h3⟩:=HRI.out.take (m:=2) (by omega)
  have HR2:=Qh h2;have HFG2:Hid (∀ g,g∈F2->w.heap.size<g):=fun g hg=>HFG.out g (h3 g hg)
  clear h2 h3 hx0;go_wp2;refine bodyPost_ret (v:= .agg #[.slice (some ⟨bb,off,none⟩) 2 c,.int .i64 sd]) (by simp[results,results32,go_sem,c40,c41,f40,f41,z4]) rfl ?_
  refine⟨some ⟨bb,off,none⟩,c,(xs.take 2,sd),F2,by dsimp only;rw[HR2.out.1],?_,HFG2.out,⟨by dsimp only;rw[HR2.out.1];omega,fun p hp=>HSM.out.2 p (List.mem_of_mem_take hp)⟩,(((HR4.out.setCell (by dsimp only;omega) _).setCell (by dsimp only;omega) _).alloc _).mono (by omega),((T4.out.setCell (.inr (by dsimp only;omega)) _).setCell (.inr (by dsimp only;omega)) _).alloc _⟩
  dsimp only
  rw[HR2.out.1]
  exact RI.alloc (HR2.out.au fun g hg=>by
   have:=HFG2.out g hg
   exact(Below.heap_setCell _ _ _ g (by dsimp only;omega)).trans (Below.heap_setCell _ _ _ g (by dsimp only;omega))) _
 ·have hn2':¬(2:Int)<(n:Int):=by omega
  go_wp2;refine bodyPost_ret (v:= .agg #[.slice A n c,.int .i64 sd]) (by simp[results,results32,go_sem,c40,c41,f40,f41,z4]) rfl ?_
  refine⟨A,c,(xs,sd),F,by dsimp only;rw[HRI.out.1],?_,HFG.out,⟨HSM.out.1,HSM.out.2⟩,(((HR4.out.setCell (by dsimp only;omega) _).setCell (by dsimp only;omega) _).alloc _).mono (by omega),((T4.out.setCell (.inr (by dsimp only;omega)) _).setCell (.inr (by dsimp only;omega)) _).alloc _⟩
  dsimp only
  rw[HRI.out.1]
  exact RI.alloc (HRI.out.au fun g hg=>by
   have:=HFG.out g hg
   exact(Below.heap_setCell _ _ _ g (by dsimp only;omega)).trans (Below.heap_setCell _ _ _ g (by dsimp only;omega))) _
theorem oQ (r1 c1 r2 c2:Int) (v1 v2:List Int) (A1 A2:Option Addr) (n1 p1 n2 p2:Nat) (w:World) (hx0:SI w A1 n1 v1) (hy0:SI w A2 n2 v2) (bn:n1<=1048576) (bm:n2<=1048576) :
  Calls prog 168 #[MV r1 c1 A1 n1 p1,MV r2 c2 A2 n2 p2] w (bD (aE bC ⟨r1,c1,v1⟩ ⟨r2,c2,v2⟩) w):=by
 have HX:=Qh hx0;have HY:=Qh hy0;clear hx0 hy0;obtain⟨m,hm⟩:∃ m,m=aE bC ⟨r1,c1,v1⟩ ⟨r2,c2,v2⟩:=⟨_,rfl⟩;rw[<-hm];have HC:Hid (∀ W:World,SI W A1 n1 v1->SI W A2 n2 v2->Calls prog 145 #[MV r1 c1 A1 n1 p1,MV r2 c2 A2 n2 p2,.func (.func 209) #[] #[]] W (bD m W)):=by rw[hm];exact fun W h1 h2=>DG r1 c1 r2 c2 v1 v2 A1 A2 n1 p1 n2 p2 W h1 h2 bn bm
 clear hm;refine zE ?_;intro u1 H;refine zO (HC.out u1 (SI.below HX.out H.O) (SI.below HY.out H.O)) ?_;clear H;intro w2 A c u2 H;refine zS_ ?_;clear H;intro u3 H
 exact⟨A,c,rfl,(H.o 0),H.O⟩
def jX (a b:Mx×Mx):Mx×Mx:=(aE aJ a.1 b.1,aE aJ a.2 b.2)
def jW (p:Mx×Mx) (w:World) (e:Ending) (w':World):Prop:=∃ (A B:Option Addr) (c d:Nat),e= .returned (SMV p.1.r p.1.c A p.1.v.length c p.2.r p.2.c B p.2.v.length d)/\OS w' w.heap.size A p.1.v.length c p.1.v/\OS w' w.heap.size B p.2.v.length d p.2.v/\Below w.heap.size w w'
theorem py {a b:Mx} (h:az a b=true):bS a b=true:=by
 obtain⟨_,_,hr,hc⟩:=i_ h;unfold bS;rw[hr,hc];simp
theorem ee {a b:Mx} (h:az a b=true):1<=b.v.length/\b.v.length<=25:=by
 obtain⟨h1,h2,h3⟩:=bt h
 omega
theorem dy {m:Mx} (h:mvB m=true):1<=m.v.length/\m.v.length<=25:=by
 obtain⟨h1,h2,h3,_⟩:=cZ h;have:=e6 h2 h3
 omega
theorem bP {m:Mx} (h:mvB m=true) {A:Option Addr} {c:Nat} (w:World) (hx:SI w A m.v.length m.v):Calls prog 57 #[MV m.r m.c A m.v.length c] w fun e w'=>e= .returned (.bool true)/\Below w.heap.size w w':=by
 have:=aw m.r m.c m.v A _ c w hx (by have:=(dy h).2;omega)
 rwa [show mvB ⟨m.r,m.c,m.v⟩=true from h] at this
theorem gg {a b:Mx} (h:bS a b=true) {A B:Option Addr} {n m p q:Nat} (w:World):Calls prog 195 #[MV a.r a.c A n p,MV b.r b.c B m q] w fun e w'=>e= .returned (.bool true)/\Below w.heap.size w w':=by
 have:=eY a.r a.c b.r b.c A B n p m q w a.v b.v
 rwa [show bS ⟨a.r,a.c,a.v⟩ ⟨b.r,b.c,b.v⟩=true from h] at this
def gx (a b:Mx) (ac bc r c:Nat):Nat->Int
 | 0=>0
 | k+1=>gx a b ac bc r c k+a.v.getD (r*ac+k) 0*b.v.getD (k*bc+c) 0
def BR (a b:Mx) (i:Nat):Int:=gx a b a.c.toNat b.c.toNat (i/b.c.toNat) (i%b.c.toNat) a.c.toNat%4096
def iz (a b:Mx):Bool:=mvB a && (mvB b && decide (a.c=b.r))
def mulM (a b:Mx):Mx:=if iz a b=true then ⟨a.r,b.c,fl (BR a b) (a.r.toNat*b.c.toNat)⟩ else Mx.z
def zF (m:Mx) (i:Nat):Int:=m.v.getD (i%m.r.toNat*m.c.toNat+i/m.r.toNat) 0
def ir (m:Mx):Mx:=if mvB m=true then ⟨m.c,m.r,fl (zF m) (m.c.toNat*m.r.toNat)⟩ else Mx.z
def ew (m:Mx) (mc r:Nat):Nat->Int
 | 0=>0
 | k+1=>ew m mc r k+m.v.getD (r*mc+k) 0
def il (m:Mx):Mx:=if mvB m=true then ⟨m.r,1,fl (fun r=>ew m m.c.toNat r m.c.toNat%4096) m.r.toNat⟩ else Mx.z
def xw (m:Mx) (cs:Int) (i:Nat):Int:=m.v.getD (i/cs.toNat) 0
def jA (m:Mx) (cs:Int):Mx:=⟨m.r,cs,fl (xw m cs) (m.r.toNat*cs.toNat)⟩
theorem ta {a b:Mx} (h:iz a b=true):mulM a b=⟨a.r,b.c,fl (BR a b) (a.r.toNat*b.c.toNat)⟩:=if_pos h
theorem qN {m:Mx} (h:mvB m=true):ir m=⟨m.c,m.r,fl (zF m) (m.c.toNat*m.r.toNat)⟩:=if_pos h
theorem qu {m:Mx} (h:mvB m=true):il m=⟨m.r,1,fl (fun r=>ew m m.c.toNat r m.c.toNat%4096) m.r.toNat⟩:=if_pos h
theorem dE {m:Mx} (h:mvB m=true) (i:Nat):0<=m.v.getD i 0/\m.v.getD i 0<=4095:=by
 obtain⟨_,_,_,hv⟩:=cZ h;rw[List.getD_eq_getElem?_getD];rcases Nat.lt_or_ge i m.v.length with hl|hl
 ·rw[List.getElem?_eq_getElem hl];have:=List.all_eq_true.1 hv m.v[i] (List.getElem_mem hl)
  exact kJ this
 ·rw[List.getElem?_eq_none hl]
  simp
theorem jD {a b:Mx} (ha:mvB a=true) (hb:mvB b=true) (ac bc r c:Nat):∀ k,0<=gx a b ac bc r c k/\gx a b ac bc r c k<=k*16769025
 | 0=>by simp[gx]
 | k+1=>by
  obtain⟨h1,h2⟩:=jD ha hb ac bc r c k;obtain⟨a1,a2⟩:=dE ha (r*ac+k);obtain⟨b1,b2⟩:=dE hb (k*bc+c);have h3:a.v.getD (r*ac+k) 0*b.v.getD (k*bc+c) 0<=4095*4095:=Int.mul_le_mul a2 b2 b1 (by omega)
  have h4:=Int.mul_nonneg a1 b1;unfold gx;refine⟨by omega,?_⟩
  push_cast
  omega
theorem n9 {m:Mx} (h:mvB m=true) (mc r:Nat):∀ k,0<=ew m mc r k/\ew m mc r k<=k*4095
 | 0=>by simp[ew]
 | k+1=>by
  obtain⟨h1,h2⟩:=n9 h mc r k;obtain⟨a1,a2⟩:=dE h (r*mc+k);unfold ew;refine⟨by omega,?_⟩
  push_cast
  omega
section
def OM (u:World) (ro co:Int) (f:Nat->Int) (wr:World) (j:Nat) (A:Option Addr) (c:Nat):Prop :=
 Blk wr u.heap.size 37 #[.int .i64 ro,.int .i64 co,.slice A j c]/\OS wr (u.heap.size+1) A j c (fl f j)/\Below u.heap.size u wr
def OMA (u:World) (ro co:Int) (f:Nat->Int) (wr:World) (j:Nat) (A:Option Addr) (c g cap:Nat):Prop :=
 Blk wr u.heap.size 37 #[.int .i64 ro,.int .i64 co,.slice A j c]/\OS wr (u.heap.size+1) (some ⟨g,0,none⟩) (j+1) cap (fl f (j+1))/\Below u.heap.size u wr
section
variable {u wr w1:World} {ro co:Int} {f:Nat->Int} {j c g cap:Nat} {A:Option Addr} {o:Obj}
theorem OM.start (u:World) (ro co:Int) (f:Nat->Int):OM u ro co f (u.alloc (.cells #[.int .i64 ro,.int .i64 co,.slice none 0 0] 37)) 0 none 0 :=
 ⟨Blk.new _ _ _,OS.nil _ _,Qb.alloc Ql _⟩
theorem OM.below (h:OM u ro co f wr j A c) (hb:Below wr.heap.size wr w1):OM u ro co f w1 j A c:=⟨h.1.aa hb,h.2.1.below hb,h.2.2.trans (hb.mono h.2.2.size)⟩
theorem OM.drewN (h:OM u ro co f wr j A c) (n:Nat):OM u ro co f (wr.drewN n) j A c:=⟨h.1.drewN n,OS.drewN h.2.1 n,below_drewN h.2.2 n⟩
theorem OM.app (h:OM u ro co f wr j A c)
  (hown:w1.ownsRow (u.heap.size+1) 3 1 (.slice (some ⟨g,0,none⟩) (j+1) cap) (j+1) ((fl f j).map (Value.int .i64)++[.int .i64 (f j)])) (hg:(wr.alloc o).grownBy w1 (Value.slice A j c).ownBlock)
  (hat:(Value.slice A j c).ownBlock=some g\/g=wr.heap.size+1):OMA u ro co f w1 j A c g cap:=by
 obtain⟨h1,h2,h3⟩:=h;have hlt:=h1.lt;obtain⟨k1,k2,k3,_⟩:=fS (wr:=wr) (h2.mono (base':=u.heap.size) (by omega)) h3 h3.size (by
  obtain⟨e1,e2⟩:=hown;refine⟨e1,?_⟩;rcases e2 with e2|⟨g',c',cur,e,hb,rest⟩
  ·exact .inl e2
  ·exact .inr ⟨g',c',cur,e,by omega,rest⟩) hg hat
 refine⟨h1.bR k3 (bf h2 h1 (by decide)),?_,k2⟩
 unfold OS;rw[dd,List.map_append]
 exact hown
theorem OMA.next (h:OMA u ro co f w1 j A c g cap):OM u ro co f (w1.setCell ⟨u.heap.size,2,none⟩ (.slice (some ⟨g,0,none⟩) (j+1) cap)) (j+1) (some ⟨g,0,none⟩) cap :=
 ⟨h.1.dc 2 _,h.2.1.dk h.1 (by decide) _,h.2.2.setCell (by dsimp only;omega) _⟩
end
end
end Go.Proofs.YtjciicheoghcdaaGreatDoor
