/- Part of the proof that the law FnServiceLine of the given program returns true for every input. -/
import Derived.Handy
import Derived.Test.YtjciicheoghcdaaGreatDoorXl
import Derived.Test.YtjciicheoghcdaaGreatDoorXn
import Derived.Test.YtjciicheoghcdaaGreatDoorXp
import Derived.Test.YtjciicheoghcdaaGreatDoorXs
import Derived.Test.YtjciicheoghcdaaGreatDoorXt
namespace Go.Proofs.YtjciicheoghcdaaGreatDoor
open Go.RowKit
set_option linter.unusedSimpArgs false
set_option linter.unusedVariables false
set_option maxRecDepth 20000
set_option maxHeartbeats 16000000
section
attribute [local go_sem] af ah ae
theorem LV.cases {w:World} {l:PL} {v:Value} (h:LV w l v) (hl:aL l.1 l.2=true) :
  (∃ a b A0 p0 A1 p1,l=(1,[a,b])/\(mvB a=true/\mvB b=true/\b.c=1/\b.r=a.r)/\RM w (MV a.r a.c A0 a.v.length p0) a/\RM w (MV b.r b.c A1 b.v.length p1) b/\v= .iface 178 (.agg #[.int .i64 a.r,.int .i64 a.c,.slice A0 a.v.length p0,.int .i64 b.r,.int .i64 b.c,.slice A1 b.v.length p1])) \/
  (l=(2,[])/\v= .iface 180 (.agg #[])) \/
  (∃ a b c g off cap F,l=(3,[a,b,c])/\(mvB a=true/\mvB b=true/\mvB c=true/\a.r=a.c/\b.r=a.c/\b.c=a.c/\c.r=a.c/\c.c=a.c)/\RI mxE w (some ⟨g,off,none⟩) 3 cap [a,b,c] F/\(g<w.heap.size/\w.cell? ⟨g,off,none⟩=some (.int .i64 a.r))/\v= .iface 183 (.agg #[.slice (some ⟨g,off,none⟩) 3 cap])):=by
 obtain ⟨A,c,F,hr,h⟩:=h;obtain ⟨k,ms⟩:=l
 dsimp only at hl hr h
 rcases h with h | ⟨_,h | h | h⟩
 ·rw [hl] at h;cases h.1
 ·obtain ⟨rfl,A0,p0,F0,A1,p1,F1,m0,m1,e0,e1,f0,f1,hv⟩:=h;rcases eM (l:=(1,ms)) hl with ⟨_,a,b,e,h1,h2,h3,h4⟩ | ⟨e,_⟩ | ⟨e,_⟩
  ·dsimp only at e
   subst e;injection e0 with e0;injection e1 with e1;subst e0;subst e1
   exact .inl ⟨a,b,A0,p0,A1,p1,rfl,⟨h1,h2,h3,h4⟩,RM.mk f0.1 f0.2.1 f0.2.2.1,RM.mk f1.1 f1.2.1 f1.2.2.1,hv⟩
  ·cases e
  ·cases e
 ·obtain ⟨rfl,hv⟩:=h;rcases eM (l:=(2,ms)) hl with ⟨e,_⟩ | ⟨_,e⟩ | ⟨e,_⟩
  ·cases e
  ·dsimp only at e
   subst e
   exact .inr (.inl ⟨rfl,hv⟩)
  ·cases e
 ·obtain ⟨rfl,hv⟩:=h;rcases eM (l:=(3,ms)) hl with ⟨e,_⟩ | ⟨e,_⟩ | ⟨_,a,b,c',e,h1⟩
  ·cases e
  ·cases e
  ·dsimp only at e
   subst e;obtain ⟨g,off,cs,F',rfl,hg,hc,_,A1,p1,rfl,_⟩:=hr.cells (i:=0) (x:=a) rfl 3 rfl
   exact .inr (.inr ⟨a,b,c',g,off,c,F,rfl,h1,hr,⟨hg,by have:=hc 0 (by omega);simpa using this⟩,hv⟩)
def okR:Option (Int×Int)->Int->Int->Bool->Prop
 | some rc,x,y,ok=>ok=true/\x=rc.1/\y=rc.2
 | none,_,_,ok=>ok=false
def NSd (b:Bool) (w:World) (e:Ending) (w':World):Prop:=∃ x y:Int,e= .returned (.tuple #[.int .i64 x,.int .i64 y,.bool b])/\Below w.heap.size w w'
theorem eo {net:List PL} (hv:tb net) {A:Option Addr} {cap:Nat} {F:List Nat} {r c:Int} (hr:side r=true) (hc:side c=true) (w:World) (hx:RI (kE mxE) w A net.length cap net F) (hms:∀ l,l∈net->∀ m,m∈l.2->mS m) :
  Calls Tryz.prog 61 #[.slice A net.length cap,.int .i64 r,.int .i64 c] w (NSd (bE net (some (r,c))).isSome w):=by
 have HV:=Lib.hid hv;have HX:=Lib.hid hx;have HMS:=Lib.hid hms;clear hv hx hms
 go_enter Tryz.func61,Tryz.ntmps61
 go_wp2_with fail
 refine (dj hr w).mono ?_;rintro e w' ⟨rfl,rfl⟩
 go_wp2_with fail
 refine (dj hc w).mono ?_;rintro e w' ⟨rfl,rfl⟩
 go_wp2_with fail
 refine (hM HV.out w HX.out HMS.out).mono ?_;rintro e w1 ⟨g,vs,rfl,hvo,hlr,hb⟩;obtain ⟨n,hn⟩:∃ n,n=net.length:=⟨_,rfl⟩;rw [<- hn] at hvo hlr ⊢;have HVO:=Lib.hid hvo;have HLR:=Lib.hid hlr;have HB:=Lib.hid hb;have h4:n<=4:=by rw [hn];exact HV.out.1
 have HN:=Lib.hid hn;have H0:Hid (okR (bE (net.take 0) (some (r,c))) r c true):=⟨rfl,rfl,rfl⟩;clear hvo hlr hb hn HX;go_wp2
 go_loopw [1,2,10,28] (fun x y o i wr=>∃ (j:Nat) (a b:Int) (ok:Bool),j<=n/\x= .int .i64 a/\y= .int .i64 b/\o= .bool ok/\i= .int .i64 j/\Hid (okR (bE (net.take j) (some (r,c))) a b ok)/\Hid (Below w1.heap.size w1 wr)) (fun _ _ _ i _=>n-(intOf i).toNat)
 case atStart=>exact ⟨0,r,c,true,Nat.zero_le _,rfl,rfl,rfl,rfl,H0,Below.refl _ _⟩
 case round =>
 clear H0;obtain ⟨j,x,y,ok,hj,rfl,rfl,rfl,rfl,hok,hob⟩:=hrel
 by_cases hlt:j<n
 ·obtain ⟨l,hlj,hmem⟩:=aH (xs:=net) (j:=j) (by have:=HN.out;omega)
  have HLJ:=Lib.hid hlj;have hlen:=HLR.out.1;obtain ⟨v,hvj,_⟩:=aH (xs:=vs) (j:=j) (by omega)
  have hlv:=HLR.out.2 j l v hlt hlj hvj;have hla:=HV.out.2 l hmem;have cv:=(hob.out.cell (p:=⟨g,j,none⟩) (HVO.out.aj _ rfl).2).trans ((HVO.out.cell j (by omega)).trans hvj)
  have zg:=Nat.lt_of_lt_of_le (HVO.out.aj _ rfl).2 hob.out.size;have hwr:Below w.heap.size w wr:=HB.out.trans (hob.out.mono HB.out.size);have zow:=hwr.size;clear hlj hmem hvj hlen
  cases ok
  ·have HS1:Hid (okR (bE (net.take (j+1)) (some (r,c))) x y false):=by
    rw [eh HLJ.out];have h:=hok.out
    cases e:bE (net.take j) (some (r,c)) with
    | none=>rfl
    | some rc=>rw [e] at h;cases h.1
   clear hok;rcases hlv.cases hla with ⟨_,_,_,_,_,_,_,_,_,_,rfl⟩ | ⟨_,rfl⟩ | ⟨_,_,_,_,_,_,_,_,_,_,_,rfl⟩
   all_goals
    clear hlv hla HLJ;go_wp2
    go_roundw
    case rel=>exact ⟨j+1,x,y,false,by omega,rfl,rfl,rfl,by go_num,HS1,hob⟩
    case measure=>simp [intOf];omega
  ·have hs:bE (net.take j) (some (r,c))=some (x,y):=by
    have h:=hok.out
    cases e:bE (net.take j) (some (r,c)) with
    | none=>rw [e] at h;cases h
    | some rc=>rw [e] at h;obtain ⟨_,rfl,rfl⟩:=h;rfl
   clear hok;have HS1:Hid (bE (net.take (j+1)) (some (r,c))=dr l (x,y)):=by rw [Hid,eh HLJ.out,hs];rfl
   clear hs HLJ;rcases hlv.cases hla with ⟨a,b,A0,p0,A1,p1,rfl,hm,_,_,rfl⟩ | ⟨rfl,rfl⟩ | ⟨a,b,c',gm,om,cm,Fm,rfl,hm,_,hgc,rfl⟩
   ·have HS2:Hid (okR (bE (net.take (j+1)) (some (r,c))) a.r y (a.c == x)):=by rw [Hid,HS1.out];unfold dr;rw [if_pos rfl];simp only [List.getD_cons_zero];by_cases e:a.c=x <;> simp [okR,e]
    clear hlv hla HS1 hm
    go_wp2_with fail
    refine (jq _ _ _ _ _ _ _ _ wr).mono ?_;rintro e w2 ⟨rfl,hb⟩;have HO2:Hid (Below w1.heap.size w1 w2):=hob.out.trans (hb.mono hob.out.size);clear hb;go_wp2
    go_roundw
    case rel=>exact ⟨j+1,a.r,y,(a.c == x),by omega,rfl,rfl,rfl,by go_num,HS2,HO2⟩
    case measure=>simp [intOf];omega
   ·have HS2:Hid (okR (bE (net.take (j+1)) (some (r,c))) x y true):=by rw [Hid,HS1.out];unfold dr;rw [if_neg (by decide),if_pos rfl];simp [okR]
    clear hlv hla HS1
    go_wp2_with fail
    refine (kj _ _ wr).mono ?_;rintro e w2 ⟨rfl,hb⟩;have HO2:Hid (Below w1.heap.size w1 w2):=hob.out.trans (hb.mono hob.out.size);clear hb;go_wp2
    go_roundw
    case rel=>exact ⟨j+1,x,y,true,by omega,rfl,rfl,rfl,by go_num,HS2,HO2⟩
    case measure=>simp [intOf];omega
   ·have HS2:Hid (okR (bE (net.take (j+1)) (some (r,c))) x y (a.r == y)):=by rw [Hid,HS1.out];unfold dr;rw [if_neg (by simp),if_neg (by simp)];simp only [List.getD_cons_zero];by_cases e:a.r=y <;> simp [okR,e]
    clear hlv hla HS1 hm
    go_wp2_with fail
    refine (DL _ _ _ wr (Nat.lt_of_lt_of_le hgc.1 zow) ((hwr.cell (p:=⟨gm,om,none⟩) hgc.1).trans hgc.2)).mono ?_;rintro e w2 ⟨rfl,hb⟩;have HO2:Hid (Below w1.heap.size w1 w2):=hob.out.trans (hb.mono hob.out.size);clear hb;go_wp2
    go_roundw
    case rel=>exact ⟨j+1,x,y,(a.r == y),by omega,rfl,rfl,rfl,by go_num,HS2,HO2⟩
    case measure=>simp [intOf];omega
 ·obtain rfl:j=n:=by omega
  have hs:=hok.out;rw [List.take_of_length_le (by have:=HN.out;omega)] at hs
  have hwr:Below w.heap.size w wr:=HB.out.trans (hob.out.mono HB.out.size);obtain ⟨hss⟩:Nonempty (Hid (ok=(bE net (some (r,c))).isSome)):=by
   refine ⟨?_⟩
   cases e:bE net (some (r,c)) with
   | none=>rw [e] at hs;exact hs
   | some rc=>rw [e] at hs;exact hs.1
  clear hs hok
  cases ok
  ·go_wp2
   exact bodyPost_ret (v:= .tuple #[.int .i64 0,.int .i64 0,.bool false]) (by simp [results,Tryz.results61,go_sem]) rfl ⟨0,0,by rw [<- hss.out],hwr⟩
  ·go_wp2
   exact bodyPost_ret (v:= .tuple #[.int .i64 x,.int .i64 y,.bool true]) (by simp [results,Tryz.results61,go_sem]) rfl ⟨x,y,by rw [<- hss.out],hwr⟩
attribute [local go_sem] NV lkN Nd.add cpN scN
theorem wF {l:PL} (hl:aL l.1 l.2=true) {x y:Int} (hx:side x=true) (hy:side y=true):nB (ndL l (x,y)) 1000:=by
 obtain ⟨p1,p2⟩:=dh hx hy;obtain ⟨p3,p4⟩:=dh hx hx;obtain ⟨p5,p6⟩:=dh hy hy;obtain ⟨p7,p8⟩:=bI hx;rcases eM hl with ⟨h1,a,b,e,h2,_⟩ | ⟨h1,e⟩ | ⟨h1,a,b,c,e,_⟩
 ·have:ndL l (x,y)=cpN a.r x y:=by unfold ndL;rw [if_pos h1,e];rfl
  rw [this]
  exact (nB.cp (aA h2).1 hx hy).le (by omega)
 ·have:ndL l (x,y)=lkN (x*y):=by unfold ndL;rw [if_neg (by omega),if_pos h1]
  rw [this]
  exact (nB.lk (by omega) (by omega)).le (by omega)
 ·unfold ndL;rw [if_neg (by omega),if_neg (by omega)]
  constructor <;> dsimp only <;> omega
theorem rC {net:List PL} (hv:tb net) {A:Option Addr} {cap:Nat} {F:List Nat} {r c:Int} (hr:side r=true) (hc:side c=true) (hs:(bE net (some (r,c))).isSome=true) (w:World) (hx:RI (kE mxE) w A net.length cap net F) (hms:∀ l,l∈net->∀ m,m∈l.2->mS m) :
  Calls Tryz.prog 128 #[.slice A net.length cap,.int .i64 r,.int .i64 c] w (fb (ndN net (Nd.z,some (r,c))).1 w):=by
 have HV:=Lib.hid hv;have HX:=Lib.hid hx;have HMS:=Lib.hid hms;have HS:=Lib.hid hs;have HR:=Lib.hid hr;have HC:=Lib.hid hc;clear hv hx hms hs hr hc
 go_enter Tryz.func128,Tryz.ntmps128
 go_wp2_with fail
 obtain ⟨uw1,hu⟩:∃ u,u=(w.alloc (.cells #[.int .i64 0,.int .i64 0,.int .i64 0,.int .i64 0] 92)):=⟨_,rfl⟩;rw [<- hu];have B1:Blk uw1 (w.heap.size) 92 #[.int .i64 0,.int .i64 0,.int .i64 0,.int .i64 0]:=Blk.cast hu (Blk.iA (by first | omega | (simp;done) | (simp;omega)))
 have O:Below w.heap.size w uw1:=Below.cast hu ((Below.refl _ _).alloc (by first | omega | (simp;done) | (simp;omega)) _)
 have mw:=O.size;clear hu;refine (eo HV.out HR.out HC.out uw1 (HX.out.below O) HMS.out).mono ?_;rintro e w2 ⟨x0,y0,rfl,hb⟩;replace B1:=B1.aa hb;replace O:=O.trans (hb.mono mw);replace mw:=O.size;rw [HS.out];clear hb;obtain ⟨z1,c1_0,f1_0,c1_1,f1_1,c1_2,f1_2,c1_3,f1_3⟩:=B1.f4
 go_wp2_with fail
 refine (hM HV.out w2 (HX.out.below O) HMS.out).mono ?_;rintro e w3 ⟨g,vs,rfl,hvo,hlr,hb⟩;have HB3:=Lib.hid hb;replace B1:=B1.aa hb;replace O:=O.trans (hb.mono mw);replace mw:=O.size;clear z1 c1_0 f1_0 c1_1 f1_1 c1_2 f1_2 c1_3 f1_3;clear hb;obtain ⟨z1,c1_0,f1_0,c1_1,f1_1,c1_2,f1_2,c1_3,f1_3⟩:=B1.f4;have HB1:=Lib.hid B1;have HOB:=Lib.hid O;go_wp2;obtain ⟨uw4,hu⟩:∃ u,u=(w3.alloc (.cells #[.int .i64 0,.int .i64 0,.int .i64 0,.int .i64 0] 92)):=⟨_,rfl⟩;rw [<- hu];replace B1:=Blk.cast hu (B1.alloc _);have B2:Blk uw4 (w3.heap.size) 92 #[.int .i64 0,.int .i64 0,.int .i64 0,.int .i64 0]:=Blk.cast hu (Blk.iA (by first | omega | (simp;done) | (simp;omega)))
 have xb2:w.heap.size<=w3.heap.size:=by omega
 have y1_2:w.heap.size<w3.heap.size:=by omega
 replace O:=Below.cast hu (O.alloc (by first | omega | (simp;done) | (simp;omega)) _)
 replace mw:=O.size;clear z1 c1_0 f1_0 c1_1 f1_1 c1_2 f1_2 c1_3 f1_3;have HB0:Hid (Below w3.heap.size w3 uw4):=Below.cast hu ((Below.refl _ _).alloc (Nat.le_refl _) _);clear hu;obtain ⟨n,hn⟩:∃ n,n=net.length:=⟨_,rfl⟩;rw [<- hn] at hvo hlr ⊢;have HVO:=Lib.hid hvo;have HLR:=Lib.hid hlr;have h4:n<=4:=by rw [hn];exact HV.out.1
 have HN:=Lib.hid hn;have hgA:w.heap.size<w3.heap.size:=HB1.out.lt;have hg:g<w3.heap.size:=(hvo.aj _ rfl).2;have H0:Hid (ndN (net.take 0) (Nd.z,some (r,c))=(Nd.z,some (r,c))):=rfl;have HB2:=Lib.hid B2;clear hvo hlr hn HX B1 B2 O mw
 go_loopw [1,2,33] (fun x y i wr=>∃ (j:Nat) (a b:Int) (Z:Nd),j<=n/\x= .int .i64 a/\y= .int .i64 b/\i= .int .i64 j/\Hid (ndN (net.take j) (Nd.z,some (r,c))=(Z,some (a,b))/\side a=true/\side b=true/\nB Z (1000*j))/\Hid (Blk wr w3.heap.size 92 #[.int .i64 Z.a,.int .i64 Z.b,.int .i64 Z.c,.int .i64 Z.d])/\Hid (Below w3.heap.size w3 wr)) (fun _ _ i _=>n-(intOf i).toNat)
 case atStart=>exact ⟨0,r,c,Nd.z,Nat.zero_le _,rfl,rfl,rfl,⟨H0,HR.out,HC.out,nB.z⟩,HB2,HB0⟩
 case round =>
 clear H0 HB0 HB2;obtain ⟨j,x,y,Z,hj,rfl,rfl,rfl,hz,BA,O⟩:=hrel;obtain ⟨hz1,sx,sy,hz2⟩:=hz.out;have BA:=BA.out;have O:=O.out;have mw:=O.size
 by_cases hlt:j<n
 ·obtain ⟨l,hlj,hmem⟩:=aH (xs:=net) (j:=j) (by have:=HN.out;omega)
  have hlen:=HLR.out.1;obtain ⟨v,hvj,_⟩:=aH (xs:=vs) (j:=j) (by omega)
  have hlv:=HLR.out.2 j l v hlt hlj hvj;have hla:=HV.out.2 l hmem;have cv:=(O.cell (p:=⟨g,j,none⟩) hg).trans ((HVO.out.cell j (by omega)).trans hvj)
  have zg:=Nat.lt_of_lt_of_le hg O.size;have hnd:=wF hla sx sy;obtain ⟨Z1,hZ1⟩:∃ Z1,Z1=Z.add (ndL l (x,y)):=⟨_,rfl⟩;have hzz:=rW hlj (Nd.z,some (r,c));rw [hz1] at hzz
  dsimp only at hzz
  rw [<- hZ1] at hzz;have hq:∃ x' y',dr l (x,y)=some (x',y'):=by
   cases e:dr l (x,y) with
   | none =>
    have h1:bE (net.take (j+1)) (some (r,c))=none:=by rw [<- qo _ (Nd.z,some (r,c)),hzz];exact e
    have h2:=HS.out;rw [gJ h1] at h2
    cases h2
   | some rc=>exact ⟨rc.1,rc.2,rfl⟩
  obtain ⟨x',y',hq⟩:=hq;obtain ⟨sx',sy'⟩:=uy (rc:=(x,y)) hla sx sy hq;have hz3:ndN (net.take (j+1)) (Nd.z,some (r,c))=(Z1,some (x',y')):=by rw [hzz];exact congrArg _ hq
  have HZ:Hid (ndN (net.take (j+1)) (Nd.z,some (r,c))=(Z1,some (x',y'))/\side x'=true/\side y'=true/\nB Z1 (1000*(j+1:Nat))):=⟨hz3,sx',sy',by rw [hZ1];exact hz2.add hnd (by omega)⟩
  have HZ1:=Lib.hid hZ1;have HZ2:=Lib.hid hz2;have HND:=Lib.hid hnd;have SX:=Lib.hid sx;have SY:=Lib.hid sy;have HQ:=Lib.hid hq;clear hlj hmem hvj hlen hz hz1 sx sy hz2 hnd hZ1 hzz hq sx' sy' hz3;rcases hlv.cases hla with ⟨a,b,A0,p0,A1,p1,rfl,hm,_,_,rfl⟩ | ⟨rfl,rfl⟩ | ⟨a,b,c',gm,om,cm,Fm,rfl,hm,_,hgc,rfl⟩
  ·obtain ⟨z9,c9_0,f9_0,c9_1,f9_1,c9_2,f9_2,c9_3,f9_3⟩:=BA.f4;have hxy:a.r=x'/\y=y':=by have h:=HQ.out;unfold dr at h;rw [if_pos rfl] at h;simp only [List.getD_cons_zero] at h;split at h <;> simp at h;obtain ⟨h1,h2⟩:=h;exact ⟨h1,h2⟩
   obtain ⟨rfl,rfl⟩:=hxy;have HZA:Hid (Z1=Z.add (cpN a.r x y)):=HZ1.out;have HNB:Hid (nB (cpN a.r x y) 1000):=HND.out;have HM:=Lib.hid hm;clear hm;clear HZ1 HND HQ hlv hla
   go_wp2_with fail
   clear z9 c9_0 f9_0 c9_1 f9_1 c9_2 f9_2 c9_3 f9_3;obtain ⟨S,KP,KQ,KA,G9⟩:=uf BA;obtain ⟨g9_0,g9_1,g9_2,g9_3⟩:=Cs.f4 G9;refine eH true S (by kernel_rfl) (by kernel_rfl) (fun _=>by kernel_rfl) (KP.out _ (Below.refl _ _).drew) ?_
   intro hne;have hb:=(Below.refl wr.heap.size wr).drew;obtain ⟨w11,hd⟩:∃ u,u=wr.drew:=⟨_,rfl⟩;rw [<- hd] at hb ⊢
   (try simp only [Nat.add_assoc,Nat.reduceAdd])
   clear hd;have X:=Lib.hid hb;replace BA:=BA.aa hb;replace O:=O.trans (hb.mono mw);replace mw:=O.size;clear hb
   repeat (first | (refine aF (by rfl) (by rfl) ?_;intro K hK;go_big_quiet_op;go_big_quiet_on) | (refine aG (by rfl) ?_))
   refine bj (by rfl) (by rfl) (fun K hK=> ?_)
   unfold Oper.gives
   go_simp
   go_invoke;go_simp
   refine (oS (aA HM.out.1).1 SX.out SY.out w11).mono ?_;rintro e w12 ⟨rfl,hb⟩;replace X:=Lib.hid (X.out.trans (hb.mono X.out.size));refine ⟨_,rfl,hK _ _ ⟨⟨_,KP.out _ X.out⟩,rfl⟩ ?_⟩;clear hK K;replace BA:=BA.aa hb;replace O:=O.trans (hb.mono mw);replace mw:=O.size;clear hb
   repeat (first | (refine aF (by rfl) (by rfl) ?_;intro K hK;go_big_quiet_op;go_big_quiet_on) | (refine aG (by rfl) ?_))
   refine bj (by rfl) (by rfl) (fun K hK=> ?_)
   unfold Oper.gives
   go_simp
   refine (bY HZA HZ2.out HNB.out (by omega) (by omega) w12).mono ?_
   rintro e w13 ⟨rfl,hb⟩;replace X:=Lib.hid (X.out.trans (hb.mono X.out.size));refine ⟨_,rfl,hK _ _ ⟨⟨_,KP.out _ X.out⟩,rfl⟩ ?_⟩;clear hK K;replace BA:=BA.aa hb;replace O:=O.trans (hb.mono mw);replace mw:=O.size;clear hb
   repeat (first | (refine aF (by rfl) (by rfl) ?_;intro K hK;go_big_quiet_op;go_big_quiet_on) | (refine aG (by rfl) ?_))
   obtain ⟨z9,c9_0,f9_0,c9_1,f9_1,c9_2,f9_2,c9_3,f9_3⟩:=BA.f4;refine aV rfl (by rfl) (by rfl) (fun K hK=> ?_)
   unfold Oper.gives
   go_simp
   refine hK _ _ ?_;clear hK K;clear z9 c9_0 f9_0 c9_1 f9_1 c9_2 f9_2 c9_3 f9_3
   repeat (first | (refine aF (by rfl) (by rfl) ?_;intro K hK;go_big_quiet_op;go_big_quiet_on) | (refine aG (by rfl) ?_))
   refine aI ?_;clear hne KP KQ KA X g9_0 g9_1 g9_2 g9_3 G9;obtain ⟨z9,c9_0,f9_0,c9_1,f9_1,c9_2,f9_2,c9_3,f9_3⟩:=BA.f4
   go_wp2_with fail
   obtain ⟨uw14,hu⟩:∃ u,u=((((w13.setCell ⟨w3.heap.size,0,none⟩ (.int .i64 Z1.a)).setCell ⟨w3.heap.size,1,none⟩ (.int .i64 Z1.b)).setCell ⟨w3.heap.size,2,none⟩ (.int .i64 Z1.c)).setCell ⟨w3.heap.size,3,none⟩ (.int .i64 Z1.d)):=⟨_,rfl⟩;rw [<- hu];replace BA:Blk uw14 (w3.heap.size) 92 #[.int .i64 Z1.a,.int .i64 Z1.b,.int .i64 Z1.c,.int .i64 Z1.d]:=Blk.cast hu ((((BA.dc 0 _).dc 1 _).dc 2 _).dc 3 _);have q1:w3.heap.size<=w3.heap.size:=by omega
   replace O:=Below.cast hu ((((O.setCell q1 _).setCell q1 _).setCell q1 _).setCell q1 _);replace mw:=O.size;clear z9 c9_0 f9_0 c9_1 f9_1 c9_2 f9_2 c9_3 f9_3;clear hu;clear q1;refine (jq _ _ _ _ _ _ _ _ uw14).mono ?_;rintro e w15 ⟨rfl,hb⟩;replace BA:=BA.aa hb;replace O:=O.trans (hb.mono mw);replace mw:=O.size;clear hb;obtain ⟨z9,c9_0,f9_0,c9_1,f9_1,c9_2,f9_2,c9_3,f9_3⟩:=BA.f4;clear z9 c9_0 f9_0 c9_1 f9_1 c9_2 f9_2 c9_3 f9_3;go_wp2
   go_roundw
   case rel=>exact ⟨j+1,_,_,Z1,by omega,rfl,rfl,by go_num,HZ,BA,O⟩
   case measure=>simp [intOf];omega
  ·obtain ⟨z9,c9_0,f9_0,c9_1,f9_1,c9_2,f9_2,c9_3,f9_3⟩:=BA.f4;have hxy:x=x'/\y=y':=by have h:=HQ.out;unfold dr at h;rw [if_neg (by decide),if_pos rfl] at h;simp at h;obtain ⟨h1,h2⟩:=h;exact ⟨h1,h2⟩
   obtain ⟨rfl,rfl⟩:=hxy;have HZA:Hid (Z1=Z.add (lkN (x*y))):=HZ1.out;have HNB:Hid (nB (lkN (x*y)) 1000):=HND.out;clear HZ1 HND HQ hlv hla
   go_wp2_with fail
   clear z9 c9_0 f9_0 c9_1 f9_1 c9_2 f9_2 c9_3 f9_3;obtain ⟨S,KP,KQ,KA,G9⟩:=uf BA;obtain ⟨g9_0,g9_1,g9_2,g9_3⟩:=Cs.f4 G9;refine eH true S (by kernel_rfl) (by kernel_rfl) (fun _=>by kernel_rfl) (KP.out _ (Below.refl _ _).drew) ?_
   intro hne;have hb:=(Below.refl wr.heap.size wr).drew;obtain ⟨w11,hd⟩:∃ u,u=wr.drew:=⟨_,rfl⟩;rw [<- hd] at hb ⊢
   (try simp only [Nat.add_assoc,Nat.reduceAdd])
   clear hd;have X:=Lib.hid hb;replace BA:=BA.aa hb;replace O:=O.trans (hb.mono mw);replace mw:=O.size;clear hb
   repeat (first | (refine aF (by rfl) (by rfl) ?_;intro K hK;go_big_quiet_op;go_big_quiet_on) | (refine aG (by rfl) ?_))
   refine bj (by rfl) (by rfl) (fun K hK=> ?_)
   unfold Oper.gives
   go_simp
   go_invoke;go_simp
   refine (qi SX.out SY.out w11).mono ?_;rintro e w12 ⟨rfl,hb⟩;replace X:=Lib.hid (X.out.trans (hb.mono X.out.size));refine ⟨_,rfl,hK _ _ ⟨⟨_,KP.out _ X.out⟩,rfl⟩ ?_⟩;clear hK K;replace BA:=BA.aa hb;replace O:=O.trans (hb.mono mw);replace mw:=O.size;clear hb
   repeat (first | (refine aF (by rfl) (by rfl) ?_;intro K hK;go_big_quiet_op;go_big_quiet_on) | (refine aG (by rfl) ?_))
   refine bj (by rfl) (by rfl) (fun K hK=> ?_)
   unfold Oper.gives
   go_simp
   refine (bY HZA HZ2.out HNB.out (by omega) (by omega) w12).mono ?_
   rintro e w13 ⟨rfl,hb⟩;replace X:=Lib.hid (X.out.trans (hb.mono X.out.size));refine ⟨_,rfl,hK _ _ ⟨⟨_,KP.out _ X.out⟩,rfl⟩ ?_⟩;clear hK K;replace BA:=BA.aa hb;replace O:=O.trans (hb.mono mw);replace mw:=O.size;clear hb
   repeat (first | (refine aF (by rfl) (by rfl) ?_;intro K hK;go_big_quiet_op;go_big_quiet_on) | (refine aG (by rfl) ?_))
   obtain ⟨z9,c9_0,f9_0,c9_1,f9_1,c9_2,f9_2,c9_3,f9_3⟩:=BA.f4;refine aV rfl (by rfl) (by rfl) (fun K hK=> ?_)
   unfold Oper.gives
   go_simp
   refine hK _ _ ?_;clear hK K;clear z9 c9_0 f9_0 c9_1 f9_1 c9_2 f9_2 c9_3 f9_3
   repeat (first | (refine aF (by rfl) (by rfl) ?_;intro K hK;go_big_quiet_op;go_big_quiet_on) | (refine aG (by rfl) ?_))
   refine aI ?_;clear hne KP KQ KA X g9_0 g9_1 g9_2 g9_3 G9;obtain ⟨z9,c9_0,f9_0,c9_1,f9_1,c9_2,f9_2,c9_3,f9_3⟩:=BA.f4
   go_wp2_with fail
   obtain ⟨uw14,hu⟩:∃ u,u=((((w13.setCell ⟨w3.heap.size,0,none⟩ (.int .i64 Z1.a)).setCell ⟨w3.heap.size,1,none⟩ (.int .i64 Z1.b)).setCell ⟨w3.heap.size,2,none⟩ (.int .i64 Z1.c)).setCell ⟨w3.heap.size,3,none⟩ (.int .i64 Z1.d)):=⟨_,rfl⟩;rw [<- hu];replace BA:Blk uw14 (w3.heap.size) 92 #[.int .i64 Z1.a,.int .i64 Z1.b,.int .i64 Z1.c,.int .i64 Z1.d]:=Blk.cast hu ((((BA.dc 0 _).dc 1 _).dc 2 _).dc 3 _);have q1:w3.heap.size<=w3.heap.size:=by omega
   replace O:=Below.cast hu ((((O.setCell q1 _).setCell q1 _).setCell q1 _).setCell q1 _);replace mw:=O.size;clear z9 c9_0 f9_0 c9_1 f9_1 c9_2 f9_2 c9_3 f9_3;clear hu;clear q1;refine (kj _ _ uw14).mono ?_;rintro e w15 ⟨rfl,hb⟩;replace BA:=BA.aa hb;replace O:=O.trans (hb.mono mw);replace mw:=O.size;clear hb;obtain ⟨z9,c9_0,f9_0,c9_1,f9_1,c9_2,f9_2,c9_3,f9_3⟩:=BA.f4;clear z9 c9_0 f9_0 c9_1 f9_1 c9_2 f9_2 c9_3 f9_3;go_wp2
   go_roundw
   case rel=>exact ⟨j+1,_,_,Z1,by omega,rfl,rfl,by go_num,HZ,BA,O⟩
   case measure=>simp [intOf];omega
  ·obtain ⟨z9,c9_0,f9_0,c9_1,f9_1,c9_2,f9_2,c9_3,f9_3⟩:=BA.f4;have hxy:x=x'/\y=y':=by have h:=HQ.out;unfold dr at h;rw [if_neg (by simp),if_neg (by simp)] at h;split at h <;> simp at h;obtain ⟨h1,h2⟩:=h;exact ⟨h1,h2⟩
   obtain ⟨rfl,rfl⟩:=hxy;have HZA:Hid (Z1=Z.add (ndL (3,[a,b,c']) (x,y))):=HZ1.out;have HNB:Hid (nB (ndL (3,[a,b,c']) (x,y)) 1000):=HND.out;have HM:=Lib.hid hm;clear hm;clear HZ1 HND HQ hlv hla
   go_wp2_with fail
   clear z9 c9_0 f9_0 c9_1 f9_1 c9_2 f9_2 c9_3 f9_3;obtain ⟨S,KP,KQ,KA,G9⟩:=uf BA;obtain ⟨g9_0,g9_1,g9_2,g9_3⟩:=Cs.f4 G9;refine eH true S (by kernel_rfl) (by kernel_rfl) (fun _=>by kernel_rfl) (KP.out _ (Below.refl _ _).drew) ?_
   intro hne;have hb:=(Below.refl wr.heap.size wr).drew;obtain ⟨w11,hd⟩:∃ u,u=wr.drew:=⟨_,rfl⟩;rw [<- hd] at hb ⊢
   (try simp only [Nat.add_assoc,Nat.reduceAdd])
   clear hd;have X:=Lib.hid hb;replace BA:=BA.aa hb;replace O:=O.trans (hb.mono mw);replace mw:=O.size;clear hb
   repeat (first | (refine aF (by rfl) (by rfl) ?_;intro K hK;go_big_quiet_op;go_big_quiet_on) | (refine aG (by rfl) ?_))
   refine bj (by rfl) (by rfl) (fun K hK=> ?_)
   unfold Oper.gives
   go_simp
   go_invoke;go_simp
   refine (rE (l:=(3,[a,b,c'])) rfl SX.out SY.out w11).mono ?_;rintro e w12 ⟨rfl,hb⟩;replace X:=Lib.hid (X.out.trans (hb.mono X.out.size));refine ⟨_,rfl,hK _ _ ⟨⟨_,KP.out _ X.out⟩,rfl⟩ ?_⟩;clear hK K;replace BA:=BA.aa hb;replace O:=O.trans (hb.mono mw);replace mw:=O.size;clear hb
   repeat (first | (refine aF (by rfl) (by rfl) ?_;intro K hK;go_big_quiet_op;go_big_quiet_on) | (refine aG (by rfl) ?_))
   refine bj (by rfl) (by rfl) (fun K hK=> ?_)
   unfold Oper.gives
   go_simp
   refine (bY HZA HZ2.out HNB.out (by omega) (by omega) w12).mono ?_
   rintro e w13 ⟨rfl,hb⟩;replace X:=Lib.hid (X.out.trans (hb.mono X.out.size));refine ⟨_,rfl,hK _ _ ⟨⟨_,KP.out _ X.out⟩,rfl⟩ ?_⟩;clear hK K;replace BA:=BA.aa hb;replace O:=O.trans (hb.mono mw);replace mw:=O.size;clear hb
   repeat (first | (refine aF (by rfl) (by rfl) ?_;intro K hK;go_big_quiet_op;go_big_quiet_on) | (refine aG (by rfl) ?_))
   obtain ⟨z9,c9_0,f9_0,c9_1,f9_1,c9_2,f9_2,c9_3,f9_3⟩:=BA.f4;refine aV rfl (by rfl) (by rfl) (fun K hK=> ?_)
   unfold Oper.gives
   go_simp
   refine hK _ _ ?_;clear hK K;clear z9 c9_0 f9_0 c9_1 f9_1 c9_2 f9_2 c9_3 f9_3
   repeat (first | (refine aF (by rfl) (by rfl) ?_;intro K hK;go_big_quiet_op;go_big_quiet_on) | (refine aG (by rfl) ?_))
   refine aI ?_;clear hne KP KQ KA X g9_0 g9_1 g9_2 g9_3 G9;obtain ⟨z9,c9_0,f9_0,c9_1,f9_1,c9_2,f9_2,c9_3,f9_3⟩:=BA.f4
   go_wp2_with fail
   obtain ⟨uw14,hu⟩:∃ u,u=((((w13.setCell ⟨w3.heap.size,0,none⟩ (.int .i64 Z1.a)).setCell ⟨w3.heap.size,1,none⟩ (.int .i64 Z1.b)).setCell ⟨w3.heap.size,2,none⟩ (.int .i64 Z1.c)).setCell ⟨w3.heap.size,3,none⟩ (.int .i64 Z1.d)):=⟨_,rfl⟩;rw [<- hu];replace BA:Blk uw14 (w3.heap.size) 92 #[.int .i64 Z1.a,.int .i64 Z1.b,.int .i64 Z1.c,.int .i64 Z1.d]:=Blk.cast hu ((((BA.dc 0 _).dc 1 _).dc 2 _).dc 3 _);have q1:w3.heap.size<=w3.heap.size:=by omega
   replace O:=Below.cast hu ((((O.setCell q1 _).setCell q1 _).setCell q1 _).setCell q1 _);replace mw:=O.size;clear z9 c9_0 f9_0 c9_1 f9_1 c9_2 f9_2 c9_3 f9_3;clear hu;clear q1;refine (DL _ _ _ uw14 (Nat.lt_of_lt_of_le hgc.1 (HB3.out.trans (O.mono HB3.out.size)).size) (((HB3.out.trans (O.mono HB3.out.size)).cell (p:=⟨gm,om,none⟩) hgc.1).trans hgc.2)).mono ?_;rintro e w15 ⟨rfl,hb⟩;replace BA:=BA.aa hb;replace O:=O.trans (hb.mono mw);replace mw:=O.size;clear hb;obtain ⟨z9,c9_0,f9_0,c9_1,f9_1,c9_2,f9_2,c9_3,f9_3⟩:=BA.f4;clear z9 c9_0 f9_0 c9_1 f9_1 c9_2 f9_2 c9_3 f9_3;go_wp2
   go_roundw
   case rel=>exact ⟨j+1,_,_,Z1,by omega,rfl,rfl,by go_num,HZ,BA,O⟩
   case measure=>simp [intOf];omega
 ·obtain rfl:j=n:=by omega
  rw [List.take_of_length_le (by have:=HN.out;omega)] at hz1
  have B1:=HB1.out.aa O;replace O:=HOB.out.trans (O.mono HOB.out.size);have mw:=O.size;have HZ1:=Lib.hid hz1;clear hz sx sy hz2 hz1;obtain ⟨z1,c1_0,f1_0,c1_1,f1_1,c1_2,f1_2,c1_3,f1_3⟩:=B1.f4;obtain ⟨z9,c9_0,f9_0,c9_1,f9_1,c9_2,f9_2,c9_3,f9_3⟩:=BA.f4;go_wp2;have q1:w.heap.size<=w.heap.size:=by omega
  exact bodyPost_ret (v:=NV Z) (by simp [results,Tryz.results128,go_sem,z1,c1_0,f1_0,c1_1,f1_1,c1_2,f1_2,c1_3,f1_3,z9,c9_0,f9_0,c9_1,f9_1,c9_2,f9_2,c9_3,f9_3,(by omega:¬ w.heap.size=w3.heap.size),(by omega:¬ w3.heap.size=w.heap.size)]) rfl ⟨by rw [HZ1.out],((((O.setCell q1 _).setCell q1 _).setCell q1 _).setCell q1 _)⟩
end
section
attribute [local go_sem] af ah ae
theorem RI.cast {α:Type} {E:Elt α} {u w:World} {A:Option Addr} {n cap:Nat} {xs:List α} {F:List Nat} (hu:u=w) (h:RI E w A n cap xs F):RI E u A n cap xs F:=hu ▸ h
theorem sD {l:SL} (h:aL l.1 (l.2.map aq)=true) {z:(Mx×Mx)×Int} {r c:Int} (hz:OKD z r c) {rc':Int×Int} (e:dr (df l) (r,c)=some rc') :
  (∃ a b,l=(1,[a,b])/\(okS a=true/\okS b=true/\a.1.c=z.1.1.r/\b.1.r=a.1.r/\b.1.c=1)/\jm l z=ec a b z.1 z.2)\/(l=(2,[])/\jm l z=dv (fnv 2) z.1 z.2) \/
  (∃ p q t,l=(3,[p,q,t])/\(okS p=true/\okS q=true/\okS t=true/\p.1.r=z.1.1.c/\p.1.c=z.1.1.c/\q.1.r=z.1.1.c/\q.1.c=z.1.1.c/\t.1.r=z.1.1.c/\t.1.c=z.1.1.c)/\jm l z=nR p q t z.1 z.2):=by
 obtain ⟨h1,h2,h3,h4⟩:=hz;obtain ⟨kk,ms⟩:=l;unfold dr df at e;rcases mV (l:=(kk,ms)) h with ⟨k,a,b,hl,oa,ob,hb1,hb2⟩ | ⟨k,hl⟩ | ⟨k,p,q,t,hl,oa,ob,oc,x1,x2,x3,x4,x5⟩ <;> dsimp only at k hl <;> subst k <;> subst hl <;> dsimp only at e
 ·rw [if_pos rfl] at e;simp only [List.map_cons,List.getD_cons_zero] at e
  split at e
  ·rename_i hc
   rw [(aN oa).2.2] at hc
   exact .inl ⟨a,b,rfl,⟨oa,ob,by rw [hc,h2],hb2,hb1⟩,by unfold jm;rw [if_pos rfl];rfl⟩
  ·cases e
 ·exact .inr (.inl ⟨rfl,by unfold jm;rw [if_neg (by decide),if_pos rfl]⟩)
 ·rw [if_neg (by decide),if_neg (by decide)] at e
  simp only [List.map_cons,List.getD_cons_zero] at e
  split at e
  ·rename_i hc
   rw [(aN oa).2.1] at hc
   exact .inr (.inr ⟨p,q,t,rfl,⟨oa,ob,oc,by rw [hc,h3],by rw [<- x1,hc,h3],by rw [x2,<- x1,hc,h3],by rw [x3,<- x1,hc,h3],by rw [x4,<- x1,hc,h3],by rw [x5,<- x1,hc,h3]⟩,by unfold jm;rw [if_neg (by simp),if_neg (by simp)];rfl⟩)
  ·cases e
theorem eN {net:List SL} (h:bu net=true):tb (bh net):=by
 rw [eL h];unfold bu at h;simp only [Bool.and_eq_true,decide_eq_true_eq,List.all_eq_true] at h;refine ⟨by rw [List.length_map];exact h.1,fun l hl=> ?_⟩
 obtain ⟨l',h1,rfl⟩:=List.mem_map.1 hl
 exact h.2 l' h1
theorem du {net:List SL} (h:bu net=true):net.length<=4/\∀ l,l∈net->aL l.1 (l.2.map aq)=true:=by
 unfold bu at h
 simpa only [Bool.and_eq_true,decide_eq_true_eq,List.all_eq_true] using h
theorem dU {net:List SL}:∀ l,l∈bh net->∀ m,m∈l.2->mS m:=by
 intro l hl m hm
 by_cases h:bu net=true
 ·rw [eL h] at hl;obtain ⟨l',_,rfl⟩:=List.mem_map.1 hl
  exact jJ m hm
 ·rw [rL (by simpa using h)] at hl;cases hl
def pM (p:Mx×Mx) (s:Int) (w:World) (e:Ending) (w':World):Prop:=∃ A c B d C n k v,e= .returned (.tuple #[SMV p.1.r p.1.c A p.1.v.length c p.2.r p.2.c B p.2.v.length d,.slice C n k,.int .i64 s])/\OS w' w.heap.size A p.1.v.length c p.1.v/\OS w' w.heap.size B p.2.v.length d p.2.v/\OS w' w.heap.size C n k v/\Below w.heap.size w w'
def Cu (w:World) (e:Ending) (w':World):Prop:=e= .returned (.tuple #[SMV 0 0 none 0 0 0 0 none 0 0,.slice none 0 0,.int .i64 0])/\Below w.heap.size w w'
theorem nx {net:List SL} (hok:bu net=true) (hns:gG (kS smS) net) {A:Option Addr} {cap:Nat} {F:List Nat} {x:Mx×Mx} {s:Int} (hox:okS x=true) (hsd:sdB s=true) (hfit:(bE (bh net) (some (x.1.r,x.1.c))).isSome=false) (w:World) (hx:RI (kE smE) w A net.length cap net F) {vx:Value} (hvx:RS w vx x) :
  Calls Tryz.prog 126 #[.slice A net.length cap,vx,.int .i64 s] w (Cu w):=by
 obtain ⟨XA,XB,xa,xb,rfl,q1,q2,q3,q4,q5,q6⟩:=hvx;have hX:=RS.mk q1 q2 q3 q4 q5 q6;clear q1 q2 q3 q4 q5 q6;obtain ⟨hR,hC⟩:=aA (ai hox).1;have hNV:=eN hok;have HXX:=Lib.hid hX;have HOK:=Lib.hid hok;have HNS:=Lib.hid hns;have HOX:=Lib.hid hox;have HSD:=Lib.hid hsd;have HFIT:=Lib.hid hfit;have HNT:=Lib.hid hx;have HR:=Lib.hid hR;have HC:=Lib.hid hC;have HNV:=Lib.hid hNV;clear hX hok hns hox hsd hfit hx hR hC hNV;refine zE ?_;intro u1 H;refine zG (gB _ _ _ net _ u1 (HNT.out.below H.O) HNS.out) ?_;rintro e w2 ⟨AJ,nj,cj,FJ,rfl,hrj,hfr,hb⟩;replace H:=H.rf hb hrj hfr;rw [HOK.out];obtain rfl:=hrj.len;clear hrj hfr hb;refine zN ?_;clear H;intro u3 H;refine zB (gC HOX.out u3 (RS.below HXX.out H.O)) ?_;clear H;intro w4 u4 H;refine zP (aU (dH HSD.out) u4) ?_;clear H;intro u5 H;refine zG ((show Calls Tryz.prog 61 #[_,_,_] u5 (NSd false u5) from by rw [<- HFIT.out];exact eo HNV.out HR.out HC.out u5 (H.f 0).1 dU)) ?_
 rintro e w6 ⟨x0,y0,rfl,hb⟩;replace H:=H.b hb;refine zS_ ?_;clear H;intro u7 H
 exact ⟨rfl,H.O⟩
theorem oM {net:List SL} (hok:bu net=true) (hns:gG (kS smS) net) {A:Option Addr} {cap:Nat} {F:List Nat} {x:Mx×Mx} {s:Int} (hox:okS x=true) (hsd:sdB s=true) (hfit:(bE (bh net) (some (x.1.r,x.1.c))).isSome=true) (w:World) (hx:RI (kE smE) w A net.length cap net F) {vx:Value} (hvx:RS w vx x) :
  Calls Tryz.prog 126 #[.slice A net.length cap,vx,.int .i64 s] w (pM (fD net (x,s)).1 (fD net (x,s)).2 w):=by
 obtain ⟨XA,XB,xa,xb,rfl,q1,q2,q3,q4,q5,q6⟩:=hvx;have hX:=RS.mk q1 q2 q3 q4 q5 q6;clear q1 q2 q3 q4 q5 q6;obtain ⟨hR,hC⟩:=aA (ai hox).1;have hNV:=eN hok;have HXX:=Lib.hid hX;have HOK:=Lib.hid hok;have HNS:=Lib.hid hns;have HOX:=Lib.hid hox;have HSD:=Lib.hid hsd;have HFIT:=Lib.hid hfit;have HNT:=Lib.hid hx;have HR:=Lib.hid hR;have HC:=Lib.hid hC;have HNV:=Lib.hid hNV;clear hX hok hns hox hsd hfit hx hR hC hNV;refine zE ?_;intro u1 H;refine zG (gB _ _ _ net _ u1 (HNT.out.below H.O) HNS.out) ?_;rintro e w2 ⟨AJ,nj,cj,FJ,rfl,hrj,hfr,hb⟩;replace H:=H.rf hb hrj hfr;rw [HOK.out];obtain rfl:=hrj.len;clear hrj hfr hb;refine zN ?_;clear H;intro u3 H;refine zB (gC HOX.out u3 (RS.below HXX.out H.O)) ?_;clear H;intro w4 u4 H;refine zP (aU (dH HSD.out) u4) ?_;clear H;intro u5 H;refine zG ((show Calls Tryz.prog 61 #[_,_,_] u5 (NSd true u5) from by rw [<- HFIT.out];exact eo HNV.out HR.out HC.out u5 (H.f 0).1 dU)) ?_
 rintro e w6 ⟨x0,y0,rfl,hb⟩;replace H:=H.b hb;refine zN ?_;clear H;intro u7 H;replace H:=H.nil;obtain ⟨gS,hgS⟩:∃ x,x=w6.heap.size:=⟨_,rfl⟩;rw [<- hgS] at H ⊢;clear hgS;refine zW (mO (q:=x) 63 #[] (fun v=>#[v]) (fun _=>rfl) u7 (RS.below HXX.out H.O) (fun _ _=>by kernel_rfl) (fun W v _ hv=>ep (ai HOX.out).1 W hv) (fun W v _ hv=>ep (ai HOX.out).2.1 W hv)) ?_;clear H;intro w8 P Q c1 d1 u8 H
 replace H:=(((((((H.d 4).d 5).r 4).r 1).r 2).r 3).r 4);obtain ⟨n,hn⟩:∃ n,n=net.length:=⟨_,rfl⟩;rw [<- hn];have HN:=Lib.hid hn;have h4:n<=4:=by rw [hn];exact (du HOK.out).1
 obtain ⟨gM,hgM⟩:∃ x,x=w8.heap.size:=⟨_,rfl⟩;rw [<- hgM] at H ⊢;clear hn hgM;have H0:Hid (fD (net.take 0) (x,s)=(x,s)/\bE ((bh net).take 0) (some (x.1.r,x.1.c))=some (x.1.r,x.1.c)/\OKD (x,s) x.1.r x.1.c):=⟨rfl,rfl,HOX.out,rfl,rfl,HSD.out⟩;intros
 go_loopw [57] (fun i wr=>∃ (j:Nat) (z:(Mx×Mx)×Int) (rr cc:Int) (PA:Option Addr) (pa:Nat) (PB:Option Addr) (pb:Nat) (Ca:Option Addr) (m k:Nat) (v:List Int),j<=n/\i= .int .i64 j/\m<=500*j/\Hid (fD (net.take j) (x,s)=z/\bE ((bh net).take j) (some (x.1.r,x.1.c))=some (rr,cc)/\OKD z rr cc)/\Hid (Hq w [qB gS 199 [.int .i64 z.2,.slice Ca m k],qO w.heap.size Ca m k v,qS w.heap.size PA pa PB pb z.1,qB gM 82 [.int .i64 z.1.1.r,.int .i64 z.1.1.c,.slice PA z.1.1.v.length pa,.int .i64 z.1.2.r,.int .i64 z.1.2.c,.slice PB z.1.2.v.length pb],qB (w.heap.size+1) 82 [.int .i64 0,.int .i64 0,.slice none 0 0,.int .i64 0,.int .i64 0,.slice none 0 0]] wr)) (fun i _=>n-(intOf i).toNat)
 case atStart=>exact ⟨0,(x,s),_,_,P,c1,Q,d1,none,0,0,[],Nat.zero_le _,rfl,by omega,H0,H⟩
 case round =>
 clear H0 H;obtain ⟨j,z,rr,cc,PA,pa,PB,pb,Ca,m,k,v,hj,rfl,hm,hz,H⟩:=hrel;have H:=H.out;have mw:=H.m
 by_cases hlt:j<n
 ·obtain ⟨l,hlj,hmem⟩:=aH (xs:=net) (j:=j) (by have:=HN.out;omega)
  obtain ⟨hz1,hz2,hz3⟩:=hz.out;have hlb:=(du HOK.out).2 l hmem;have hjl:(bh net)[j]?=some (df l):=by rw [eL HOK.out];exact jb hlj
  have hq:∃ r' c',dr (df l) (rr,cc)=some (r',c'):=by
   cases e:dr (df l) (rr,cc) with
   | none =>
    have h1:bE ((bh net).take (j+1)) (some (x.1.r,x.1.c))=none:=by rw [eh hjl,hz2];exact e
    have h2:=HFIT.out;rw [gJ h1] at h2
    cases h2
   | some rc=>exact ⟨rc.1,rc.2,rfl⟩
  obtain ⟨r',c',hq⟩:=hq;have HZ:Hid (fD (net.take (j+1)) (x,s)=jm l z/\bE ((bh net).take (j+1)) (some (x.1.r,x.1.c))=some (r',c')/\OKD (jm l z) r' c'):=⟨by rw [pF hlj,hz1],by rw [eh hjl,hz2];exact hq,qk hlb hz3 hq⟩
  obtain ⟨zz,hzz⟩:∃ zz,zz=jm l z:=⟨_,rfl⟩;rw [<- hzz] at HZ;have hfit:=sD hlb hz3 hq;rw [<- hzz] at hfit;have HOKD:=Lib.hid hz3;have HLJ:=Lib.hid hlj;have HFT:=Lib.hid hfit;obtain ⟨b,off,cs,Fx,rfl,hbl,hc,_,Aw,cw,rfl,hrw⟩:=HNT.out.cells hlj 2 rfl;have d0:wr.cell? ⟨b,off+j*2,none⟩=some (.int .i64 l.1):=(H.O.cell (p:=⟨b,off+j*2,none⟩) hbl).trans (hc 0 (by omega))
  have d1:wr.cell? ⟨b,off+j*2+1,none⟩=some (.slice Aw l.2.length cw):=(H.O.cell (p:=⟨b,off+j*2+1,none⟩) hbl).trans (hc 1 (by omega))
  have zb:b<wr.heap.size:=Nat.lt_of_lt_of_le hbl mw;have HRW:=Lib.hid hrw;have k0:(0:Int)<=(j:Int):=by omega
  have k1:(j:Int)<(n:Int):=by omega
  clear hc hrw hlj hmem hz hz1 hz2 hz3 hlb hjl hq hzz hfit;rcases HFT.out with ⟨a,bq,rfl,hf,hL⟩ | ⟨rfl,hL⟩ | ⟨a,bq,cq,rfl,hf,hL⟩
  ·have HL:=Lib.hid hL;obtain ⟨ab,ao,_,_,rfl,hab,_⟩:=HRW.out.at (i:=0) (x:=a) rfl;obtain ⟨EA1,ea1,EA2,ea2,he0,hr0⟩:=sm_at HRW.out (i:=0) (p:=a) rfl rfl;obtain ⟨EB1,eb1,EB2,eb2,he1,hr1⟩:=sm_at HRW.out (i:=1) (p:=bq) rfl rfl;simp only [Nat.zero_mul,Nat.add_zero,Nat.one_mul] at he0 he1;have HE0:=Lib.hid he0;have HE1:=Lib.hid he1;have HF:=Lib.hid hf;have HR0:=Lib.hid hr0;have HR1:=Lib.hid hr1;have HD:Hid (ec a bq z.1 z.2=zz):=hL.symm;clear hL hf hr0 hr1 he0 he1 HL;refine zN ?_;clear H;intro u41 H;have zab:=Nat.lt_of_lt_of_le hab H.m;intros;refine H.BM [wr.heap.size,gM,ab] (fun t=>t == 3) true ?_;clear H;intro S w42 hne H
   refine zD ((And.intro (H.c 0) (H.c 4))) ?_;intro G;obtain ⟨e00,e01,e02,e03,e04,e05⟩:=SMc.below HE0.out hab H.O;replace e00:=H.row e00;replace e01:=H.row e01;replace e02:=H.row e02;replace e03:=H.row e03;replace e04:=H.row e04;replace e05:=H.row e05;obtain ⟨e10,e11,e12,e13,e14,e15⟩:=SMc.below HE1.out hab H.O;replace e10:=H.row e10;replace e11:=H.row e11;replace e12:=H.row e12;replace e13:=H.row e13;replace e14:=H.row e14;replace e15:=H.row e15;have cg:w42.cell? ⟨gS,0,none⟩=some (.int .i64 z.2):=(H.k 1).cell 0;refine yL ?_;intros;refine y_ ((show Calls Tryz.prog 171 #[_,_,_,_] w42 (bo zz.1 zz.2 75 w42) from by rw [<- HD.out];exact mA HF.out.1 HF.out.2.1 HOKD.out.1 HF.out.2.2.1 HF.out.2.2.2.1 HF.out.2.2.2.2 HOKD.out.2.2.2 w42 (RS.below HR0.out H.O) (RS.below HR1.out H.O) (H.rs 3))) ?_
   rintro K hK e w43 ⟨A1,c1,B1',d1,D,m',e',y',rfl,h1,h2,h3,hmN,hb⟩;replace H:=H.so hb h1 h2 h3;clear cg h1 h2 h3;refine yK ?_;clear hK K;replace H:=((H.r 3).r 3);intros;refine y_ (nI w43 (H.k 0) ((H.o 1).mono (Nat.zero_le _)) (OS.si (Ow.P2 (H.p 2))) (by omega) (by omega)) ?_
   rintro K hK e w44 ⟨rfl,C1,k1,hq⟩;replace H:=H.stp hq (all_cons H.H.nst (all_cons H.H.nst (all_cons (H.H.nel hab) all_nil)));refine yK ?_;clear hK K hq;replace H:=(H.r 2).pP;refine nZ ?_;clear H;intro w45 H;replace H:=(((((((H.d 3).d 3).r 4).r 4).r 2).r 4).r 4);refine zC ?_;intro C;intros;go_wp2
   go_roundw
   case rel=>exact ⟨j+1,zz,_,_,A1,c1,B1',d1,C1,m+m',k1,_,by omega,by go_num,by omega,HZ,H⟩
   case measure=>simp [intOf];omega
  ·have HL:=Lib.hid hL;have HD:Hid (dv (fnv 2) z.1 z.2=zz):=hL.symm;clear hL HL;refine zC ?_;intro C;intros;go_wp2_with fail;refine zM ?_;clear H C;intro u41 H;replace H:=((H.r 2).r 2);refine zG ((show Calls Tryz.prog 172 #[_,_,_] u41 (jC zz.1 zz.2 25 gS Ca m u41) from by rw [<- HD.out];exact nD (by omega) HOKD.out.1 HOKD.out.2.2.2 u41 (H.k 0) ((H.o 1).mono (Nat.zero_le _)) (by omega) (H.rs 3))) ?_
   rintro e w99 ⟨A1,c1,B1',d1,C1,n1,k1,v1,rfl,hn1,hq⟩;replace H:=H.stp hq;clear hq;replace H:=((H.d 3).d 3);refine zC ?_;intro C;intros;go_wp2
   go_roundw
   case rel=>exact ⟨j+1,zz,_,_,A1,c1,B1',d1,C1,n1,k1,v1,by omega,by go_num,by omega,HZ,(Lib.hid hq)⟩
   case measure=>simp [intOf];omega
  ·have HL:=Lib.hid hL;obtain ⟨ab,ao,rfl,hab,hR3⟩:=Dx HRW.out;have HF:=Lib.hid hf;have HR3:=Lib.hid hR3;have HD:Hid (nR a bq cq z.1 z.2=zz):=hL.symm;clear hL hf hR3 HL;refine zC ?_;intro C;intros;go_wp2_with fail;refine zM ?_;clear H C;intro u41 H;refine zN ?_;clear H;intro u42 H;refine zG ((show Calls Tryz.prog 173 #[_,_,_] u42 (bo zz.1 zz.2 500 u42) from by rw [<- HD.out];exact oN (cap:=cw) HF.out.1 HF.out.2.1 HF.out.2.2.1 HOKD.out.1 HF.out.2.2.2.1 HF.out.2.2.2.2.1 HF.out.2.2.2.2.2.1 HF.out.2.2.2.2.2.2.1 HF.out.2.2.2.2.2.2.2.1 HF.out.2.2.2.2.2.2.2.2 HOKD.out.2.2.2 u42 (Nat.lt_of_lt_of_le hab H.m) (R3.below HR3.out hab H.O) (H.rs 3))) ?_
   rintro e w43 ⟨A1,c1,B1',d1,D,m',e',y',rfl,h1,h2,h3,hmN,hb⟩;replace H:=H.so hb h1 h2 h3;clear h1 h2 h3 hb;refine zN ?_;clear H;intro u44 H;replace H:=((H.r 3).r 3);refine zG (nI u44 (H.k 0) ((H.o 1).mono (Nat.zero_le _)) (OS.si (Ow.P2 (H.p 2))) (by omega) (by omega)) ?_
   rintro e w45 ⟨rfl,C1,k1,hq⟩;replace H:=H.stp hq;clear hq;replace H:=(H.r 2).pP;replace H:=(((((((H.d 3).d 3).r 4).r 4).r 2).r 4).r 4);refine zC ?_;intro C;intros;go_wp2
   go_roundw
   case rel=>exact ⟨j+1,zz,_,_,A1,c1,B1',d1,C1,m+m',k1,_,by omega,by go_num,by omega,HZ,(Lib.hid hq)⟩
   case measure=>simp [intOf];omega
 ·obtain rfl:j=n:=by omega
  obtain ⟨hz1,_⟩:=hz.out;rw [List.take_of_length_le (by have:=HN.out;omega)] at hz1
  have HZZ:=Lib.hid hz1;clear hz hz1;refine zN ?_;clear H;intro u61 H;refine zX (tg [gS,gM]) ?_;clear H;intro S w62 hne H;refine zD ((And.intro (H.c 0) (H.c 3))) ?_;intro G;refine yS ?_;clear H;intro w63 H;refine yN ?_;clear H G;intro u64 H;refine zS_ ?_;clear H;intro u65 H
  exact (by rw [HZZ.out];exact ⟨PA,pa,PB,pb,Ca,m,k,v,rfl,qS.a (H.p 2),qS.b (H.p 2),(H.o 1),H.O⟩)
end
end Go.Proofs.YtjciicheoghcdaaGreatDoor
