/- Part of the proof: the law FnServiceRun is true for every input. -/
import Derived.BigRegion
import Derived.Deep.AppendLies
import Derived.Deep.DeepCutAuto
import Derived.Deep.DrawnRows
import Derived.Deep.RegionHeld3
import Derived.Deep.RegionLaw
import Derived.Test.YtjciicheoghcdaaGreatDoorVa
import Derived.Test.YtjciicheoghcdaaGreatDoorVf
import Derived.Test.YtjciicheoghcdaaGreatDoorVg
namespace Go.Proofs.YtjciicheoghcdaaGreatDoor
open Go.RowKit Go.Proofs.Tryz
set_option linter.all false
set_option maxRecDepth 20000
set_option maxHeartbeats 16000000
def nxt (s:Int):Int:=s*48271%2147483647
theorem tf {s:Int} (h:1<=s/\s<=2147483646):1<=nxt s/\nxt s<=2147483646:=by
 obtain⟨m,rfl⟩:∃ m:Nat,s=(m:Int):=⟨s.toNat,by omega⟩
 have hne:m*48271%2147483647≠0:=by
  intro h0;have hd:2147483647∣m*48271:=Nat.dvd_of_mod_eq_zero h0;have hc:Nat.Coprime 2147483647 48271:=by decide +kernel
  have:=hc.dvd_of_dvd_mul_right hd;have:=Nat.le_of_dvd (by omega) this
  omega
 have e:nxt (m:Int)=((m*48271%2147483647:Nat):Int):=by simp[nxt]
 rw[e];have:=Nat.mod_lt (m*48271) (by decide:0<2147483647)
 omega
def sds (s:Int):Nat->Int
 | 0=>s
 | k+1=>nxt (sds s k)
theorem lO {s:Int} (h:1<=s/\s<=2147483646):∀ k,1<=sds s k/\sds s k<=2147483646
 | 0=>h
 | k+1=>tf (lO h k)
def rn (s:Int) (k:Nat):Int:=sds s (k+1)/8%4096
theorem dB (s:Int) (k:Nat):0<=rn s k/\rn s k<=4095:=by unfold rn;omega
theorem pA {s:Int} (h:1<=s/\s<=2147483646):IntKind.i64.wrap (s*48271)=s*48271/\(s*48271).tmod 2147483647=nxt s/\IntKind.i64.wrap (48271*s)=48271*s/\(48271*s).tmod 2147483647=nxt s:=by
 have e:48271*s=s*48271:=Int.mul_comm _ _;rw[e];have h1:IntKind.i64.wrap (s*48271)=s*48271:=IntWalk.i64_in _ (by omega)
 have h2:(s*48271).tmod 2147483647=nxt s:=Int.tmod_eq_emod_of_nonneg (by omega)
 exact⟨h1,h2,h1,h2⟩
theorem aU {x:Int} (h:1<=x/\x<=2147483646) (w:World):Calls prog 70 #[.int .i64 x] w fun e w'=>e= .returned (.bool true)/\w=w':=by
 obtain⟨h0,h1⟩:=h
 go_enter func70,ntmps70
 go_wp2
 go_ret
 exact⟨rfl,rfl⟩
theorem wZ {s:Int} (h:1<=s/\s<=2147483646) (w:World):Calls prog 183 #[.int .i64 s] w fun e w'=>e= .returned (.int .i64 (nxt s))/\w=w':=by
 obtain⟨h1,h2,_,_⟩:=pA h;obtain⟨q,hq⟩:∃ q,q=nxt s:=⟨_,rfl⟩;rw[<-hq] at h2 ⊢;clear hq
 go_enter func183,ntmps183
 go_wp2
 go_ret
 exact⟨rfl,rfl⟩
theorem qf {s:Int} (h:1<=s/\s<=2147483646) (w:World):Calls prog 279 #[.int .i64 s] w fun e w'=>e= .returned (.tuple #[.int .i64 (nxt s/8%4096),.int .i64 (nxt s)])/\w=w':=by
 obtain⟨_,_,h1,h2⟩:=pA h;have hok:=tf h;have h3:(nxt s).tdiv 8=nxt s/8:=Int.tdiv_eq_ediv_of_nonneg (by omega)
 have h5:IntKind.i64.wrap (nxt s/8)=nxt s/8:=IntWalk.i64_in _ (by omega)
 have h6:wrap64 (nxt s/8)=nxt s/8:=IntWalk.wrap64_in _ (by omega)
 obtain⟨q,hq⟩:∃ q,q=nxt s:=⟨_,rfl⟩;rw[<-hq] at h2 h3 h5 h6 ⊢;clear hok hq
 go_enter func279,ntmps279
 go_wp2_with fail
 refine Qc (aU h w) ?_
 go_wp2_with fail
 refine Qc (dK (q/8) w) ?_;go_wp2
 exact bodyPost_ret (v:= .tuple #[.int .i64 (q/8%4096),.int .i64 q]) (by simp[results,results279,go_sem]) rfl ⟨rfl,rfl⟩
def Rls (s:Int) (n:Nat) (w:World) (e:Ending) (w':World):Prop:=∃ (A:Option Addr) (c:Nat),e= .returned (.tuple #[.slice A n c,.int .i64 (sds s n)])/\OS w' w.heap.size A n c (fl (rn s) n)/\Below w.heap.size w w'
theorem kQ {s:Int} (h:1<=s/\s<=2147483646) (n:Nat) (hn:n<=4096) (w:World):Calls prog 136 #[.int .i64 s,.int .i64 (n:Int)] w (Rls s n w):=by
 obtain⟨i0,hi,hz0,hz1,hz2⟩:=info_parts eU;have HS:=Qh h;have HZ:Hid (OS (w.alloc (.cells #[] 3)) w.heap.size (some ⟨w.heap.size,0,none⟩) 0 0 []):=World.ownsRow_made w _ 0 Ql (by unfold maxLen;omega) rfl
 have HW:=Qh ((Below.refl w.heap.size w).alloc Ql (.cells #[] 3));clear h
 go_enter func136,ntmps136
 go_wp2
 go_loopw [0,6,7] (fun vs vo vk wr=>∃ (j c:Nat) (q:Int) (B:Option Addr),j<=n/\vk= .int .i64 j/\vs= .int .i64 q/\Hid (q=sds s j)/\vo= .slice B j c/\Hid (OS wr w.heap.size B j c (fl (rn s) j))/\Hid (Below w.heap.size w wr)) (fun _ _ vk _=>n-(intOf vk).toNat)
 case atStart=>exact⟨0,0,s,_,Nat.zero_le _,rfl,rfl,rfl,rfl,HZ,HW⟩
 case round =>
  obtain⟨j,c,q,B,hj,rfl,rfl,hq,rfl,hos,hbel⟩:=hrel
  by_cases hlt:j<n
  ·have hqok:1<=q/\q<=2147483646:=by rw[hq.out];exact lO HS.out j
   have hnok:=tf hqok;obtain⟨z,hz⟩:∃ z,z=nxt q:=⟨_,rfl⟩;have HZN:Hid (z=sds s (j+1)):=by rw[hz,hq.out];rfl
   have h3:z.tdiv 8=z/8:=Int.tdiv_eq_ediv_of_nonneg (by omega)
   have h4:(z/8).tmod 4096=z/8%4096:=Int.tmod_eq_emod_of_nonneg (by omega)
   have h5:IntKind.i64.wrap (z/8)=z/8:=IntWalk.i64_in _ (by omega)
   have h6:wrap64 (z/8)=z/8:=IntWalk.wrap64_in _ (by omega)
   obtain⟨y,hy⟩:∃ y,y=z/8%4096:=⟨_,rfl⟩;have HY:Hid (y=rn s j):=by rw[hy,HZN.out];rfl
   rw[<-hy] at h4;have hN:=wZ hqok wr;rw[<-hz] at hN;have HN:=Qh hN;have hjI:(j:Int)<(n:Int):=by omega
   have hszr:w.heap.size<=wr.heap.size:=hbel.out.size;clear hN hz hy hnok
   go_wp2_with fail
   refine Qc HN.out ?_
   go_wp2_with (at_builtin;refine wpList_append_lies _ rfl _ _ 35 rfl w.heap.size 3 i0 (.int .i64 0) 1 8 underlying35 hi hz0 hz1 hz2 rfl (by decide) (.slice B j c) j _ rfl (World.ownsRow.alloc hos.out _) ⟨wr.heap.size,0,none⟩ 1 1 [.int .i64 y] rfl rfl ?c1 ?c2 ?c3 ?c4 ?c5 ?c6 (wr.heap.size+1) ?c7 ?_)
   case c1 =>
    intro j' u hj'
    match j',hj' with
    | 0,hj'=>simp at hj';subst hj';simp[Addr.add]
   case c2=>intro u hu;simp at hu;subst hu;rfl
   case c3=>omega
   case c4=>unfold maxLen;omega
   case c5=>omega
   case c6=>simp;omega
   case c7=>simp
   intro g cap5 w5 hown hgrow hat hlt5;obtain⟨A',c',hv',ho',hb'⟩:=wO hos.out hbel.out hszr hown hgrow;injection hv' with e1 e2 e3;subst e1 e3;have HO:Hid (OS w5 w.heap.size (some ⟨g,0,none⟩) (j+1) cap5 (fl (rn s) (j+1))):=by rw[dd,<-HY.out];exact ho'
   have HB:=Qh hb';clear hown hgrow hat ho' hb' hos hbel;go_wp2
   go_roundw
   case rel=>exact⟨j+1,cap5,z,_,by omega,by go_num,rfl,HZN,rfl,HO,HB⟩
   case measure=>simp[intOf];omega
  ·have hjn:j=n:=by omega
   subst hjn;obtain rfl:q=sds s j:=hq.out;go_wp2
   exact bodyPost_ret (v:= .tuple #[.slice B j c,.int .i64 (sds s j)]) (by simp[results,results136,go_sem]) rfl ⟨B,c,rfl,hos.out,hbel.out⟩
def pv (f:Int->Int->Int) (a b:Mx) (k:Nat):Int:=f (a.v.getD k 0) (b.v.getD k 0)
def aE (f:Int->Int->Int) (a b:Mx):Mx:=if az a b=true then ⟨a.r,a.c,fl (pv f a b) a.v.length⟩ else Mx.z
theorem fi {f:Int->Int->Int} {a b:Mx} (h:az a b=true):aE f a b=⟨a.r,a.c,fl (pv f a b) a.v.length⟩:=if_pos h
theorem ib {f:Int->Int->Int} {a b:Mx} (h:az a b=false):aE f a b=Mx.z:=if_neg (by rw[h];decide)
theorem cZ {m:Mx} (h:mvB m=true):(m.v.length:Int)=m.r*m.c/\side m.r=true/\side m.c=true/\m.v.all rv=true:=by
 unfold mvB at h;simp only[Bool.and_eq_true,decide_eq_true_eq] at h
 exact⟨h.2.2.1,h.1,h.2.1,h.2.2.2⟩
theorem i_ {a b:Mx} (h:az a b=true):mvB a=true/\mvB b=true/\a.r=b.r/\a.c=b.c:=by
 unfold az bS at h;simp only[Bool.and_eq_true,decide_eq_true_eq] at h
 exact⟨h.1,h.2.1,h.2.2.1,h.2.2.2⟩
theorem bt {a b:Mx} (h:az a b=true):a.v.length=b.v.length/\1<=a.v.length/\a.v.length<=25:=by
 obtain⟨h1,h2,h3,h4⟩:=i_ h;obtain⟨l1,s1,s2,_⟩:=cZ h1;obtain⟨l2,_,_,_⟩:=cZ h2;have:=e6 s1 s2;rw[<-h3,<-h4] at l2
 omega
def La (f:Nat->Int) (a b:Mx) (w:World) (g5:Nat) (Aa Ab:Option Addr) (n ca cb:Nat) (wr:World) (j:Nat) (A:Option Addr) (c:Nat):Prop :=
 Blk wr w.heap.size 37 #[.int .i64 a.r,.int .i64 a.c,.slice Aa n ca]/\Blk wr (w.heap.size+1) 37 #[.int .i64 b.r,.int .i64 b.c,.slice Ab n cb]/\Blk wr (w.heap.size+2) 37 #[.int .i64 0,.int .i64 0,.slice none 0 0] /\
 Blk wr g5 37 #[.int .i64 a.r,.int .i64 a.c,.slice A j c]/\OS wr w.heap.size Aa n ca a.v/\OS wr w.heap.size Ab n cb b.v/\OS wr w.heap.size A j c (fl f j)/\eJ Aa A/\eJ Ab A/\Below w.heap.size w wr
def LaA (f:Nat->Int) (a b:Mx) (w:World) (g5:Nat) (Aa Ab:Option Addr) (n ca cb:Nat) (w1:World) (j:Nat) (A:Option Addr) (c g cap:Nat):Prop :=
 Blk w1 w.heap.size 37 #[.int .i64 a.r,.int .i64 a.c,.slice Aa n ca]/\Blk w1 (w.heap.size+1) 37 #[.int .i64 b.r,.int .i64 b.c,.slice Ab n cb]/\Blk w1 (w.heap.size+2) 37 #[.int .i64 0,.int .i64 0,.slice none 0 0] /\
 Blk w1 g5 37 #[.int .i64 a.r,.int .i64 a.c,.slice A j c]/\OS w1 w.heap.size Aa n ca a.v/\OS w1 w.heap.size Ab n cb b.v/\OS w1 w.heap.size (some ⟨g,0,none⟩) (j+1) cap (fl f (j+1))/\eJ Aa (some ⟨g,0,none⟩)/\eJ Ab (some ⟨g,0,none⟩)/\Below w.heap.size w w1
theorem La.app {f:Nat->Int} {a b:Mx} {w wr w1:World} {g5 n ca cb j c g cap m:Nat} {Aa Ab A:Option Addr} {o:Obj} (h:La f a b w g5 Aa Ab n ca cb wr j A c)
  (hown:w1.ownsRow w.heap.size 3 1 (.slice (some ⟨g,0,none⟩) (j+1) cap) (j+1) ((fl f j).map (Value.int .i64)++[.int .i64 (f j)])) (hg:((wr.drewN m).alloc o).grownBy w1 (Value.slice A j c).ownBlock)
  (hat:(Value.slice A j c).ownBlock=some g\/g=wr.heap.size+1):LaA f a b w g5 Aa Ab n ca cb w1 j A c g cap:=by
 obtain⟨h1,h2,h3,h4,h5,h6,h7,h8,h9,h10⟩:=h;obtain⟨k1,k2,k3,k4⟩:=fS (wr:=wr.drewN m) (OS.drewN h7 m) (below_drewN h10 m) h10.size hown hg hat;have n1:=bf h7 h1 (by decide)
 have n2:=bf h7 h2 (by decide)
 have n3:=bf h7 h3 (by decide)
 have n4:=bf h7 h4 (by decide)
 exact⟨(h1.drewN m).bR k3 n1,(h2.drewN m).bR k3 n2,(h3.drewN m).bR k3 n3,(h4.drewN m).bR k3 n4,(OS.drewN h5 m).bR k3 h8,(OS.drewN h6 m).bR k3 h9,by rw[dd];exact k1,mY h8 h5 k4,mY h9 h6 k4,k2⟩
theorem La.next {f:Nat->Int} {a b:Mx} {w w1:World} {g5 n ca cb j c g cap:Nat} {Aa Ab A:Option Addr} (h:LaA f a b w g5 Aa Ab n ca cb w1 j A c g cap) (hT:w.heap.size+2<g5) :
  La f a b w g5 Aa Ab n ca cb (w1.setCell ⟨g5,2,none⟩ (.slice (some ⟨g,0,none⟩) (j+1) cap)) (j+1) (some ⟨g,0,none⟩) cap:=by
 obtain⟨h1,h2,h3,h4,h5,h6,h7,h8,h9,h10⟩:=h
 exact⟨h1.far (p:=⟨g5,2,none⟩) (by dsimp only;omega) _,h2.far (p:=⟨g5,2,none⟩) (by dsimp only;omega) _,h3.far (p:=⟨g5,2,none⟩) (by dsimp only;omega) _,h4.dc 2 _,
  h5.dk h4 (by decide) _,h6.dk h4 (by decide) _,h7.dk h4 (by decide) _,h8,h9,h10.setCell (by dsimp only;omega) _⟩
theorem uv {w w':World} {A:Option Addr} {xs:List Int} {n j b off:Nat} (h:SI w A n xs) (hA:A=some ⟨b,off,none⟩) (hj:j<n) (hb:Below w.heap.size w w'):w'.cell? ⟨b,off+j,none⟩=some (.int .i64 (xs.getD j 0)):=by
 subst hA;obtain⟨b',off',e,_,hc⟩:=(SI.below h hb).2 (by omega)
 injection e with e;injection e with e1 e2;subst e1 e2
 exact hc j hj
theorem a7 {w:World} {base n c g i:Nat} {xs:List Int} (h:OS w base (some ⟨g,0,none⟩) n c xs) (hi:i<n):g<w.heap.size/\w.cell? ⟨g,i,none⟩=some (.int .i64 (xs.getD i 0))/\w.frozen? ⟨g,i,none⟩=false:=by
 obtain⟨b,off,e,hl,hc⟩:=h.si.2 (by omega)
 injection e with e;injection e with e1 e2;subst e1 e2;have:=hc i hi;rw[Nat.zero_add] at this
 exact⟨hl,this,h.frozen i g rfl⟩
theorem ki {op:Int->Int->Int} (f:FuncId) (hrun:∀ (W:World) (args:Array Value),(callFunc f args).run prog W= .ok (.enter f args) W) (hf:∀ (x y:Int) (W:World),Calls prog f #[.int .i64 x,.int .i64 y] W fun e w'=>e= .returned (.int .i64 (op x y))/\W=w')
  (r1 c1 r2 c2:Int) (v1 v2:List Int) (A1 A2:Option Addr) (n1 p1 n2 p2:Nat) (w:World) (hx0:SI w A1 n1 v1) (hy0:SI w A2 n2 v2) (bn:n1<=1048576) (bm:n2<=1048576) :
  Calls prog 145 #[MV r1 c1 A1 n1 p1,MV r2 c2 A2 n2 p2,.func (.func f) #[] #[]] w (bD (aE op ⟨r1,c1,v1⟩ ⟨r2,c2,v2⟩) w):=by
 obtain rfl:v1.length=n1:=hx0.1;obtain rfl:v2.length=n2:=hy0.1;have HX:=Qh hx0;have HY:=Qh hy0;clear hx0 hy0
 cases g1:mvB ⟨r1,c1,v1⟩
 ·have HLK:Hid (az ⟨r1,c1,v1⟩ ⟨r2,c2,v2⟩=false):=by show az _ _=false;unfold az;rw[g1];rfl
  refine zE ?_;intro u1 H;refine zB (aw r1 c1 v1 A1 _ p1 u1 (SI.below HX.out H.O) (by omega)) ?_;clear H;intro w2 u2 H
  refine zS_ ?_;clear H;intro u3 H
  exact(by rw[ib HLK.out];exact⟨none,0,rfl,OS.nil _ _,H.O⟩)
 cases g2:mvB ⟨r2,c2,v2⟩
 ·have HLK:Hid (az ⟨r1,c1,v1⟩ ⟨r2,c2,v2⟩=false):=by show az _ _=false;unfold az;rw[g1,g2];rfl
  refine zE ?_;intro u1 H;refine zB (aw r1 c1 v1 A1 _ p1 u1 (SI.below HX.out H.O) (by omega)) ?_;clear H;intro w2 u2 H
  refine zB (aw r2 c2 v2 A2 _ p2 u2 (SI.below HY.out H.O) (by omega)) ?_;clear H;intro w3 u3 H
  refine zS_ ?_;clear H;intro u4 H
  exact(by rw[ib HLK.out];exact⟨none,0,rfl,OS.nil _ _,H.O⟩)
 cases g3:bS ⟨r1,c1,v1⟩ ⟨r2,c2,v2⟩
 ·have HLK:Hid (az ⟨r1,c1,v1⟩ ⟨r2,c2,v2⟩=false):=by show az _ _=false;unfold az;rw[g1,g2,g3];rfl
  refine zE ?_;intro u1 H;refine zB (aw r1 c1 v1 A1 _ p1 u1 (SI.below HX.out H.O) (by omega)) ?_;clear H;intro w2 u2 H
  refine zB (aw r2 c2 v2 A2 _ p2 u2 (SI.below HY.out H.O) (by omega)) ?_;clear H;intro w3 u3 H
  refine zB ((show Calls prog 195 #[_,_] u3 (fun e w'=>e= .returned (.bool false)/\Below u3.heap.size u3 w') from g3 ▸ eY r1 c1 r2 c2 A1 A2 _ p1 _ p2 u3 v1 v2)) ?_;clear H;intro w4 u4 H
  refine zS_ ?_;clear H;intro u5 H
  exact(by rw[ib HLK.out];exact⟨none,0,rfl,OS.nil _ _,H.O⟩)
 have HLK:Hid (az ⟨r1,c1,v1⟩ ⟨r2,c2,v2⟩=true):=by show az _ _=true;unfold az;rw[g1,g2,g3];rfl
 obtain⟨hl1,hl2,hl3⟩:=bt HLK.out;have hml:=(cZ g1).1
 dsimp only at hl1 hl2 hl3 hml
 have HL1:=Qh hl1;have HML:=Qh hml;clear hl1 hml;obtain⟨bA,oA,rfl,zA,_⟩:=HX.out.2 (by omega)
 obtain⟨bB,oB,rfl,zB',_⟩:=HY.out.2 (by have:=HL1.out;omega)
 refine zE ?_;intro u1 H;refine zB (aw r1 c1 v1 (some ⟨bA,oA,none⟩) _ p1 u1 (SI.below HX.out H.O) (by omega)) ?_;clear H;intro w2 u2 H
 refine zB (aw r2 c2 v2 (some ⟨bB,oB,none⟩) _ p2 u2 (SI.below HY.out H.O) (by omega)) ?_;clear H;intro w3 u3 H
 refine zB ((show Calls prog 195 #[_,_] u3 (fun e w'=>e= .returned (.bool true)/\Below u3.heap.size u3 w') from g3 ▸ eY r1 c1 r2 c2 (some ⟨bA,oA,none⟩) (some ⟨bB,oB,none⟩) _ p1 _ p2 u3 v1 v2)) ?_;clear H;intro w4 u4 H
 refine zG (di (n:=v1.length) HML.out.symm (by omega) u4) ?_
 rintro e w5 ⟨AG,cG,rfl,hosg,hb⟩;replace H:=H.os hb hosg;simp only[List.length_replicate] at H ⊢;obtain⟨G,rfl,_,_⟩:=(H.o 0).pos (by omega)
 refine zN ?_;clear H;intro u6 H;obtain⟨gT,hgT⟩:∃ g,g=w5.heap.size:=⟨_,rfl⟩;rw[<-hgT] at H ⊢;clear hgT;intros
 go_loopw [33] (fun i wr=>∃ j:Nat,j<=v1.length/\i= .int .i64 j/\Hid (Hq w [qB gT 37 [.int .i64 r1,.int .i64 c1,.slice (some ⟨G,0,none⟩) v1.length cG],qO w.heap.size (some ⟨G,0,none⟩) v1.length cG (fl (pv op ⟨r1,c1,v1⟩ ⟨r2,c2,v2⟩) j++List.replicate (v1.length-j) 0),qB (w.heap.size+2) 37 [.int .i64 0,.int .i64 0,.slice none 0 0],qB (w.heap.size+1) 37 [.int .i64 r2,.int .i64 c2,.slice (some ⟨bB,oB,none⟩) v2.length p2],qB w.heap.size 37 [.int .i64 r1,.int .i64 c1,.slice (some ⟨bA,oA,none⟩) v1.length p1]] wr)) (fun i _=>v1.length-(intOf i).toNat)
 case atStart=>exact⟨0,Nat.zero_le _,rfl,H⟩
 case round =>
 clear H;obtain⟨j,hj,rfl,H⟩:=hrel;have H:=H.out
 by_cases hlt:j<v1.length
 ·have i0:(0:Int)<=(j:Int):=by omega
  have i1:(j:Int)<(v1.length:Int):=by omega
  have i2:(j:Int)<(v2.length:Int):=by have:=HL1.out;omega
  obtain⟨x,hx⟩:∃ x,x=v1.getD j 0:=⟨_,rfl⟩;obtain⟨y,hy⟩:∃ y,y=v2.getD j 0:=⟨_,rfl⟩;have HS:Hid ((fl (pv op ⟨r1,c1,v1⟩ ⟨r2,c2,v2⟩) j++List.replicate (v1.length-j) 0).set j (op x y)=fl (pv op ⟨r1,c1,v1⟩ ⟨r2,c2,v2⟩) (j+1)++List.replicate (v1.length-(j+1)) 0):=by
   rw[hx,hy]
   exact jF (pv op ⟨r1,c1,v1⟩ ⟨r2,c2,v2⟩) v1.length j hlt
  have cA:=uv HX.out rfl hlt H.O;rw[<-hx] at cA;have HYY:=Qh hy;clear hx hy;refine zC ?_;intro C;intros;go_upto_region 7 with fail;refine zM ?_;clear H C;intro u21 H;refine zXZ (tg [gT,(w.heap.size+1),bB]) ?_;clear H;intro S w22 hne H;refine zD ((And.intro (H.c 0) (H.c 3))) ?_;intro G;have rB:=uv HY.out rfl (by have:=HL1.out;omega:j<v2.length) H.O
  rw[<-HYY.out] at rB;replace rB:=H.row rB;refine yP (hf _ _ w22) ?_;have D:=a7 (H.o 1) hlt;refine nY ?_;clear H D;intro u22 H;replace H:=(((((H.r 4).r 4).r 4).r 4).r 4);refine zC ?_;intro C;intros;go_wp2
  go_roundw
  case rel=>exact⟨j+1,by omega,by go_num,(by rw[HS.out] at H;exact H)⟩
  case measure=>simp[intOf];omega
 ·obtain rfl:j=v1.length:=by omega
  rw[Nat.sub_self,List.replicate_zero,List.append_nil] at H;refine zS_ ?_;clear H;intro u41 H
  exact(by rw[fi HLK.out];exact⟨some ⟨G,0,none⟩,cG,by dsimp only;rw[aD],by dsimp only;rw[aD];exact(H.o 1),H.O⟩)
theorem CV (r1 c1 r2 c2:Int) (v1 v2:List Int) (A1 A2:Option Addr) (n1 p1 n2 p2:Nat) (w:World) (hx0:SI w A1 n1 v1) (hy0:SI w A2 n2 v2) (bn:n1<=1048576) (bm:n2<=1048576) :
  Calls prog 145 #[MV r1 c1 A1 n1 p1,MV r2 c2 A2 n2 p2,.func (.func 146) #[] #[]] w (bD (aE aJ ⟨r1,c1,v1⟩ ⟨r2,c2,v2⟩) w):=ki _ (fun _ _=>by kernel_rfl) iX r1 c1 r2 c2 v1 v2 A1 A2 n1 p1 n2 p2 w hx0 hy0 bn bm
theorem DG (r1 c1 r2 c2:Int) (v1 v2:List Int) (A1 A2:Option Addr) (n1 p1 n2 p2:Nat) (w:World) (hx0:SI w A1 n1 v1) (hy0:SI w A2 n2 v2) (bn:n1<=1048576) (bm:n2<=1048576) :
  Calls prog 145 #[MV r1 c1 A1 n1 p1,MV r2 c2 A2 n2 p2,.func (.func 209) #[] #[]] w (bD (aE bC ⟨r1,c1,v1⟩ ⟨r2,c2,v2⟩) w):=ki _ (fun _ _=>by kernel_rfl) gD r1 c1 r2 c2 v1 v2 A1 A2 n1 p1 n2 p2 w hx0 hy0 bn bm
theorem jw (r1 c1 r2 c2:Int) (v1 v2:List Int) (A1 A2:Option Addr) (n1 p1 n2 p2:Nat) (w:World) (hx0:SI w A1 n1 v1) (hy0:SI w A2 n2 v2) (bn:n1<=1048576) (bm:n2<=1048576) :
  Calls prog 99 #[MV r1 c1 A1 n1 p1,MV r2 c2 A2 n2 p2] w (bD (aE aJ ⟨r1,c1,v1⟩ ⟨r2,c2,v2⟩) w):=by
 obtain rfl:v1.length=n1:=hx0.1;obtain rfl:v2.length=n2:=hy0.1;have HX:=Qh hx0;have HY:=Qh hy0;clear hx0 hy0
 cases hlk:az ⟨r1,c1,v1⟩ ⟨r2,c2,v2⟩
 ·have HLK:=Qh hlk;clear hlk;refine zE ?_;intro u1 H;refine zG (aQ r1 c1 v1 A1 _ p1 u1 (SI.below HX.out H.O) (by omega)) ?_
  rintro e w2 ⟨Aa,ca,rfl,hos,hb⟩;replace H:=H.os hb hos
  dsimp only at H ⊢
  refine zN ?_;clear H;intro u3 H;refine zG (aQ r2 c2 v2 A2 _ p2 u3 (SI.below HY.out H.O) (by omega)) ?_
  rintro e w4 ⟨Ab,cb,rfl,hos,hb⟩;replace H:=H.os hb hos
  dsimp only at H ⊢
  refine zN ?_;clear H;intro u5 H;refine zB ((show Calls prog 134 #[_,_] u5 (fun e w'=>e= .returned (.bool false)/\Below u5.heap.size u5 w') from HLK.out ▸ eD r1 c1 r2 c2 v1 v2 Aa Ab _ ca _ cb u5 (OS.si (H.o 1)) (OS.si (H.o 0)) (by omega) (by omega))) ?_;clear H;intro w6 u6 H
  refine zS_ ?_;clear H;intro u7 H
  exact(by rw[ib HLK.out];exact⟨none,0,rfl,OS.nil _ _,H.O⟩)
 have HLK:=Qh hlk;have hll:=bt hlk
 dsimp only at hll
 obtain⟨hl1,hl2,hl3⟩:=hll;have HL1:=Qh hl1;clear hl1 hlk;refine zE ?_;intro u1 H;refine zG (aQ r1 c1 v1 A1 _ p1 u1 (SI.below HX.out H.O) (by omega)) ?_
 rintro e w2 ⟨Aa,ca,rfl,hos,hb⟩;replace H:=H.os hb hos
 dsimp only at H ⊢
 refine zN ?_;clear H;intro u3 H;refine zG (aQ r2 c2 v2 A2 _ p2 u3 (SI.below HY.out H.O) (by omega)) ?_
 rintro e w4 ⟨Ab,cb,rfl,hos,hb⟩;replace H:=H.os hb hos
 dsimp only at H ⊢
 refine zN ?_;clear H;intro u5 H;refine zB ((show Calls prog 134 #[_,_] u5 (fun e w'=>e= .returned (.bool true)/\Below u5.heap.size u5 w') from HLK.out ▸ eD r1 c1 r2 c2 v1 v2 Aa Ab _ ca _ cb u5 (OS.si (H.o 1)) (OS.si (H.o 0)) (by omega) (by omega))) ?_;clear H;intro w6 u6 H
 replace H:=H.nil;obtain⟨gT,hgT⟩:∃ g,g=w6.heap.size:=⟨_,rfl⟩;rw[<-hgT] at H ⊢;clear hgT;rw[<-HL1.out] at H ⊢;obtain⟨ga,rfl,_,_⟩:=(H.o 3).pos (by omega)
 obtain⟨gb,rfl,_,_⟩:=(H.o 2).pos (by omega)
 intros
 go_loopw [6] (fun i wr=>∃ (j c':Nat) (A':Option Addr),j<=v1.length/\i= .int .i64 j/\Hid (Hq w [qO w.heap.size A' j c' (fl (pv aJ ⟨r1,c1,v1⟩ ⟨r2,c2,v2⟩) j),qB gT 37 [.int .i64 r1,.int .i64 c1,.slice A' j c'],qO w.heap.size (some ⟨gb,0,none⟩) v1.length cb v2,qO w.heap.size (some ⟨ga,0,none⟩) v1.length ca v1,qB (w.heap.size+2) 37 [.int .i64 0,.int .i64 0,.slice none 0 0],qB (w.heap.size+1) 37 [.int .i64 r2,.int .i64 c2,.slice (some ⟨gb,0,none⟩) v1.length cb],qB w.heap.size 37 [.int .i64 r1,.int .i64 c1,.slice (some ⟨ga,0,none⟩) v1.length ca]] wr)) (fun i _=>v1.length-(intOf i).toNat)
 case atStart=>exact⟨0,0,none,Nat.zero_le _,rfl,H⟩
 case round =>
 clear H;obtain⟨j,c',A',hj,rfl,H⟩:=hrel;have H:=H.out
 by_cases hlt:j<v1.length
 ·have i0:(0:Int)<=(j:Int):=by omega
  have i1:(j:Int)<(v1.length:Int):=by omega
  obtain⟨x,hx⟩:∃ x,x=v1.getD j 0:=⟨_,rfl⟩;obtain⟨y,hy⟩:∃ y,y=v2.getD j 0:=⟨_,rfl⟩;have HS:Hid (fl (pv aJ ⟨r1,c1,v1⟩ ⟨r2,c2,v2⟩) j++[aJ x y]=fl (pv aJ ⟨r1,c1,v1⟩ ⟨r2,c2,v2⟩) (j+1)):=by rw[hx,hy];exact(dd (pv aJ ⟨r1,c1,v1⟩ ⟨r2,c2,v2⟩) j).symm
  have HXX:=Qh hx;have HYY:=Qh hy;clear hx hy;refine zC ?_;intro C;intros;go_upto_region 9 with fail;refine zM ?_;clear H C;intro u21 H;have zga:=(a7 (H.o 3) hlt).1;have zgb:=(a7 (H.o 2) hlt).1;refine zXZ (tg [gT,(w.heap.size+1),w.heap.size,ga,gb]) ?_;clear H;intro S w22 hne H;refine zD ((And.intro (H.c 1) (And.intro (H.c 5) (H.c 6)))) ?_;intro G;have rga:=(a7 (H.o 3) hlt).2.1;rw[<-HXX.out] at rga;replace rga:=H.row rga;have rgb:=(a7 (H.o 2) hlt).2.1;rw[<-HYY.out] at rgb;replace rgb:=H.row rgb;refine yP (pG x y w22) ?_;refine yM ?_;clear H;intro w23 H;replace H:=H.r 1;refine yA (dQ (H.k 1)) True.intro ?_;clear H;intro C1 k1 w24 H;intros;refine zCr ?_;intro C;intros
  repeat (first|(refine lc' ?_;intro K hK;go_big_quiet_op;go_big_quiet_on)|refine lk' ?_)
  refine aV rfl (by rfl) (by rfl) (fun K hK=>?_)
  unfold Oper.gives
  go_simp
  refine hK _ _ ?_;replace H:=H.H;refine aI ?_;clear C G;replace H:=((((((((H.d 1).r 6).r 6).r 6).r 6).r 6).r 6).r 6);refine zC ?_;intro C;intros;go_wp2
  go_roundw
  case rel=>exact⟨j+1,k1,C1,by omega,by go_num,(by rw[HS.out] at H;exact(Qh hq))⟩
  case measure=>simp[intOf];omega
 ·obtain rfl:j=v1.length:=by omega
  refine zS_ ?_;clear H;intro u41 H
  exact(by rw[fi HLK.out];exact⟨A',c',by dsimp only;rw[aD],by dsimp only;rw[aD];exact(H.o 0),H.O⟩)
theorem jx (r1 c1 r2 c2:Int) (v1 v2:List Int) (A1 A2:Option Addr) (n1 p1 n2 p2:Nat) (w:World) (hx0:SI w A1 n1 v1) (hy0:SI w A2 n2 v2) (bn:n1<=1048576) (bm:n2<=1048576) :
  Calls prog 94 #[MV r1 c1 A1 n1 p1,MV r2 c2 A2 n2 p2] w (bD (aE bC ⟨r1,c1,v1⟩ ⟨r2,c2,v2⟩) w):=by
 obtain rfl:v1.length=n1:=hx0.1;obtain rfl:v2.length=n2:=hy0.1;have HX:=Qh hx0;have HY:=Qh hy0;clear hx0 hy0
 cases hlk:az ⟨r1,c1,v1⟩ ⟨r2,c2,v2⟩
 ·have HLK:=Qh hlk;clear hlk;refine zE ?_;intro u1 H;refine zG (aQ r1 c1 v1 A1 _ p1 u1 (SI.below HX.out H.O) (by omega)) ?_
  rintro e w2 ⟨Aa,ca,rfl,hos,hb⟩;replace H:=H.os hb hos
  dsimp only at H ⊢
  refine zN ?_;clear H;intro u3 H;refine zG (aQ r2 c2 v2 A2 _ p2 u3 (SI.below HY.out H.O) (by omega)) ?_
  rintro e w4 ⟨Ab,cb,rfl,hos,hb⟩;replace H:=H.os hb hos
  dsimp only at H ⊢
  refine zN ?_;clear H;intro u5 H;refine zB ((show Calls prog 134 #[_,_] u5 (fun e w'=>e= .returned (.bool false)/\Below u5.heap.size u5 w') from HLK.out ▸ eD r1 c1 r2 c2 v1 v2 Aa Ab _ ca _ cb u5 (OS.si (H.o 1)) (OS.si (H.o 0)) (by omega) (by omega))) ?_;clear H;intro w6 u6 H
  refine zS_ ?_;clear H;intro u7 H
  exact(by rw[ib HLK.out];exact⟨none,0,rfl,OS.nil _ _,H.O⟩)
 have HLK:=Qh hlk;have hll:=bt hlk
 dsimp only at hll
 obtain⟨hl1,hl2,hl3⟩:=hll;have HL1:=Qh hl1;clear hl1 hlk;refine zE ?_;intro u1 H;refine zG (aQ r1 c1 v1 A1 _ p1 u1 (SI.below HX.out H.O) (by omega)) ?_
 rintro e w2 ⟨Aa,ca,rfl,hos,hb⟩;replace H:=H.os hb hos
 dsimp only at H ⊢
 refine zN ?_;clear H;intro u3 H;refine zG (aQ r2 c2 v2 A2 _ p2 u3 (SI.below HY.out H.O) (by omega)) ?_
 rintro e w4 ⟨Ab,cb,rfl,hos,hb⟩;replace H:=H.os hb hos
 dsimp only at H ⊢
 refine zN ?_;clear H;intro u5 H;refine zB ((show Calls prog 134 #[_,_] u5 (fun e w'=>e= .returned (.bool true)/\Below u5.heap.size u5 w') from HLK.out ▸ eD r1 c1 r2 c2 v1 v2 Aa Ab _ ca _ cb u5 (OS.si (H.o 1)) (OS.si (H.o 0)) (by omega) (by omega))) ?_;clear H;intro w6 u6 H
 replace H:=H.nil;obtain⟨gT,hgT⟩:∃ g,g=w6.heap.size:=⟨_,rfl⟩;rw[<-hgT] at H ⊢;clear hgT;rw[<-HL1.out] at H ⊢;obtain⟨ga,rfl,_,_⟩:=(H.o 3).pos (by omega)
 obtain⟨gb,rfl,_,_⟩:=(H.o 2).pos (by omega)
 intros
 go_loopw [6] (fun i wr=>∃ (j c':Nat) (A':Option Addr),j<=v1.length/\i= .int .i64 j/\Hid (Hq w [qO w.heap.size A' j c' (fl (pv bC ⟨r1,c1,v1⟩ ⟨r2,c2,v2⟩) j),qB gT 37 [.int .i64 r1,.int .i64 c1,.slice A' j c'],qO w.heap.size (some ⟨gb,0,none⟩) v1.length cb v2,qO w.heap.size (some ⟨ga,0,none⟩) v1.length ca v1,qB (w.heap.size+2) 37 [.int .i64 0,.int .i64 0,.slice none 0 0],qB (w.heap.size+1) 37 [.int .i64 r2,.int .i64 c2,.slice (some ⟨gb,0,none⟩) v1.length cb],qB w.heap.size 37 [.int .i64 r1,.int .i64 c1,.slice (some ⟨ga,0,none⟩) v1.length ca]] wr)) (fun i _=>v1.length-(intOf i).toNat)
 case atStart=>exact⟨0,0,none,Nat.zero_le _,rfl,H⟩
 case round =>
 clear H;obtain⟨j,c',A',hj,rfl,H⟩:=hrel;have H:=H.out
 by_cases hlt:j<v1.length
 ·have i0:(0:Int)<=(j:Int):=by omega
  have i1:(j:Int)<(v1.length:Int):=by omega
  obtain⟨x,hx⟩:∃ x,x=v1.getD j 0:=⟨_,rfl⟩;obtain⟨y,hy⟩:∃ y,y=v2.getD j 0:=⟨_,rfl⟩;have HS:Hid (fl (pv bC ⟨r1,c1,v1⟩ ⟨r2,c2,v2⟩) j++[bC x y]=fl (pv bC ⟨r1,c1,v1⟩ ⟨r2,c2,v2⟩) (j+1)):=by rw[hx,hy];exact(dd (pv bC ⟨r1,c1,v1⟩ ⟨r2,c2,v2⟩) j).symm
  have HXX:=Qh hx;have HYY:=Qh hy;clear hx hy;refine zC ?_;intro C;intros;go_upto_region 9 with fail;refine zM ?_;clear H C;intro u21 H;have zga:=(a7 (H.o 3) hlt).1;have zgb:=(a7 (H.o 2) hlt).1;refine zXZ (tg [gT,(w.heap.size+1),w.heap.size,ga,gb]) ?_;clear H;intro S w22 hne H;refine zD ((And.intro (H.c 1) (And.intro (H.c 5) (H.c 6)))) ?_;intro G;have rga:=(a7 (H.o 3) hlt).2.1;rw[<-HXX.out] at rga;replace rga:=H.row rga;have rgb:=(a7 (H.o 2) hlt).2.1;rw[<-HYY.out] at rgb;replace rgb:=H.row rgb;refine yP (vj x y w22) ?_;refine yM ?_;clear H;intro w23 H;replace H:=H.r 1;refine yA (dQ (H.k 1)) True.intro ?_;clear H;intro C1 k1 w24 H;intros;refine zCr ?_;intro C;intros
  repeat (first|(refine lc' ?_;intro K hK;go_big_quiet_op;go_big_quiet_on)|refine lk' ?_)
  refine aV rfl (by rfl) (by rfl) (fun K hK=>?_)
  unfold Oper.gives
  go_simp
  refine hK _ _ ?_;replace H:=H.H;refine aI ?_;clear C G;replace H:=((((((((H.d 1).r 6).r 6).r 6).r 6).r 6).r 6).r 6);refine zC ?_;intro C;intros;go_wp2
  go_roundw
  case rel=>exact⟨j+1,k1,C1,by omega,by go_num,(by rw[HS.out] at H;exact(Qh hq))⟩
  case measure=>simp[intOf];omega
 ·obtain rfl:j=v1.length:=by omega
  refine zS_ ?_;clear H;intro u41 H
  exact(by rw[fi HLK.out];exact⟨A',c',by dsimp only;rw[aD],by dsimp only;rw[aD];exact(H.o 0),H.O⟩)
def MAt (w:World) (b o:Nat) (m:Mx):Prop:=∃ (A:Option Addr) (c:Nat),w.cell? ⟨b,o,none⟩=some (.int .i64 m.r)/\w.cell? ⟨b,o+1,none⟩=some (.int .i64 m.c)/\w.cell? ⟨b,o+2,none⟩=some (.slice A m.v.length c)/\SI w A m.v.length m.v/\m.v.length<=1048576/\m.v.length<=c/\c<=maxLen
theorem MAt.below {w w':World} {b o:Nat} {m:Mx} (h:MAt w b o m) (hb:Below w.heap.size w w') (hl:b<w.heap.size):MAt w' b o m:=by
 obtain⟨A,c,h1,h2,h3,h4,h5⟩:=h
 exact⟨A,c,(hb.cell (p:=⟨b,o,none⟩) hl).trans h1,(hb.cell (p:=⟨b,o+1,none⟩) hl).trans h2,(hb.cell (p:=⟨b,o+2,none⟩) hl).trans h3,h4.below hb,h5⟩
def MI (w:World) (A:Option Addr) (n:Nat) (ms:List Mx):Prop:=ms.length=n/\(0<n->∃ b off,A=some ⟨b,off,none⟩/\b<w.heap.size/\∀ k,k<n->MAt w b (off+k*3) (ms.getD k Mx.z))
theorem MI.below {w w':World} {A:Option Addr} {n:Nat} {ms:List Mx} (h:MI w A n ms) (hb:Below w.heap.size w w'):MI w' A n ms:=by
 refine⟨h.1,fun hn=>?_⟩
 obtain⟨b,off,e,hl,hk⟩:=h.2 hn
 exact⟨b,off,e,Nat.lt_of_lt_of_le hl hb.size,fun k hk'=>(hk k hk').below hb hl⟩
theorem MI.nil (w:World) (A:Option Addr):MI w A 0 []:=⟨rfl,fun h=>absurd h (by omega)⟩
def jN (ms:List Mx):Bool:=ms.all fun m=>mvB m && (decide (m.r=m.c) && bS m (ms.getD 0 Mx.z))
def aL (k:Int) (ms:List Mx):Bool:=if k=1 then ms.length == 2 && dfB (ms.getD 0 Mx.z) (ms.getD 1 Mx.z) else if k=2 then ms.length == 0 else if k=3 then ms.length == 3 && jN ms else false
def mr (m0 m:Mx):Bool:=mvB m && (decide (m.r=m.c) && bS m m0)
theorem iW {ms:List Mx} {k:Nat} {x:Mx} (h:ms[k]?=some x):ms.getD k Mx.z=x:=by rw[List.getD_eq_getElem?_getD,h];rfl
theorem s8 {ms:List Mx} {k:Nat} {m m0:Mx} (h0:ms[0]?=some m0) (hk:ms[k]?=some m) (h:mr m0 m=false):jN ms=false:=by
 unfold jN;rw[iW h0]
 exact List.all_eq_false.2 ⟨m,List.mem_of_getElem? hk,by rw[Bool.not_eq_true];exact h⟩
theorem x_ {ms:List Mx} {m0:Mx} (h0:ms[0]?=some m0) (h:∀ k x,k<ms.length->ms[k]?=some x->mr m0 x=true):jN ms=true:=by
 unfold jN;rw[iW h0];refine List.all_eq_true.2 fun m hm=>?_
 obtain⟨k,hk⟩:=List.getElem?_of_mem hm
 exact h k m (List.getElem?_eq_some_iff.1 hk).1 hk
theorem ph (A:Option Addr) (n cap:Nat) (ms:List Mx) (F:List Nat) (w:World) (hx:RI mxE w A n cap ms F) (bs:∀ m,m∈ms->mS m) (hn:0<n) (bn:n<=1048576) :
  Calls prog 148 #[.slice A n cap] w fun e w'=>e= .returned (.bool (jN ms))/\Below w.heap.size w w':=by
 have HX:=Qh hx;have HLN:=Qh hx.1;have HS:=Qh bs;obtain⟨m0,hm0,hme0⟩:=aH (xs:=ms) (j:=0) (by have:=hx.1;omega)
 have HX0:=Qh hm0;clear hx bs hm0 hme0
 go_enter func148,ntmps148
 go_wp2
 go_loopw [7] (fun i wr=>∃ j:Nat,j<=n/\i= .int .i64 j/\Hid (Below w.heap.size w wr)/\Hid (∀ k x,k<j->ms[k]?=some x->mr m0 x=true)) (fun i _=>n-(intOf i).toNat)
 case atStart=>exact⟨0,Nat.zero_le _,rfl,Below.refl _ _,fun k x hk=>absurd hk (by omega)⟩
 case round =>
 obtain⟨j,hj,rfl,hob,hfit⟩:=hrel
 by_cases hlt:j<n
 ·obtain⟨m,hmj,hmem⟩:=aH (xs:=ms) (j:=j) (by have:=HLN.out;omega)
  have HXJ:=Qh hmj;have hb1:m.v.length<=1048576:=HS.out m hmem;obtain⟨b,off,cs,F1,rfl,hbl,hc,_,A1,p1,rfl,hm1⟩:=(HX.out.below hob.out).cells hmj 3 rfl;obtain⟨b',off',cs',F2,hA',_,hd,_,A0,p0,rfl,hm2⟩:=(HX.out.below hob.out).cells HX0.out 3 rfl;injection hA' with hA';injection hA' with h1 h2;subst h1 h2;have a0:wr.cell? ⟨b,off+j*3,none⟩=some (.int .i64 m.r):=hc 0 (by omega)
  have a1:wr.cell? ⟨b,off+j*3+1,none⟩=some (.int .i64 m.c):=hc 1 (by omega)
  have a2:wr.cell? ⟨b,off+j*3+2,none⟩=some (.slice A1 m.v.length p1):=hc 2 (by omega)
  have d0:wr.cell? ⟨b,off,none⟩=some (.int .i64 m0.r):=by have:=hd 0 (by omega);simpa using this
  have d1:wr.cell? ⟨b,off+1,none⟩=some (.int .i64 m0.c):=by have:=hd 1 (by omega);simpa using this
  have d2:wr.cell? ⟨b,off+2,none⟩=some (.slice A0 m0.v.length p0):=by have:=hd 2 (by omega);simpa using this
  have HS1:=Qh hm1.1;have i0:(0:Int)<=(j:Int):=by omega
  have i1:(j:Int)<(n:Int):=by omega
  have i2:(0:Int)<(n:Int):=by omega
  clear hc hd hm1 hm2 hmj hmem
  cases g1:mvB m
  ·have hfv:mr m0 m=false:=by unfold mr;simp[g1]
   have HNO:Hid (jN ms=false):=s8 HX0.out HXJ.out hfv;clear hfv
   go_wp2_with fail
   obtain⟨u1,hu1⟩:∃ u,u=(wr.alloc (.cells #[.int .i64 m.r,.int .i64 m.c,.slice A1 m.v.length p1] 37)):=⟨_,rfl⟩;rw[<-hu1];have hzu1:u1.heap.size<=wr.heap.size+1:=by rw[hu1];simp
   have hyu1:wr.heap.size+1<=u1.heap.size:=by rw[hu1];simp
   have B1_1:Blk u1 (wr.heap.size) 37 #[.int .i64 m.r,.int .i64 m.c,.slice A1 m.v.length p1]:=by rw[hu1];have h:=(Blk.new wr 37 #[.int .i64 m.r,.int .i64 m.c,.slice A1 m.v.length p1]);simpa using h
   have xb1:wr.heap.size<=wr.heap.size:=by omega
   have O1:Below wr.heap.size wr u1:=by rw[hu1];exact((Below.refl wr.heap.size wr).alloc (by first|omega|(simp;done)|(simp;omega)) _)
   have m1:wr.heap.size<=u1.heap.size:=by omega
   clear hu1;have z1_1:wr.heap.size<u1.heap.size:=B1_1.lt;have c1_1_0:u1.cell? ⟨wr.heap.size,0,none⟩=some (.int .i64 m.r):=B1_1.cell 0;have f1_1_0:u1.frozen? ⟨wr.heap.size,0,none⟩=false:=B1_1.frozen 0;have c1_1_1:u1.cell? ⟨wr.heap.size,1,none⟩=some (.int .i64 m.c):=B1_1.cell 1;have f1_1_1:u1.frozen? ⟨wr.heap.size,1,none⟩=false:=B1_1.frozen 1;have c1_1_2:u1.cell? ⟨wr.heap.size,2,none⟩=some (.slice A1 m.v.length p1):=B1_1.cell 2;have f1_1_2:u1.frozen? ⟨wr.heap.size,2,none⟩=false:=B1_1.frozen 2;have hbu:Below wr.heap.size wr u1:=O1;have zb:b<u1.heap.size:=Nat.lt_of_lt_of_le hbl hbu.size;have e0:u1.cell? ⟨b,off,none⟩=some (.int .i64 m0.r):=(hbu.cell (p:=⟨b,off,none⟩) hbl).trans d0;have e1:u1.cell? ⟨b,off+1,none⟩=some (.int .i64 m0.c):=(hbu.cell (p:=⟨b,off+1,none⟩) hbl).trans d1;have e2:u1.cell? ⟨b,off+2,none⟩=some (.slice A0 m0.v.length p0):=(hbu.cell (p:=⟨b,off+2,none⟩) hbl).trans d2;have HV:Hid (∀ W:World,Below u1.heap.size u1 W->Calls prog 57 #[MV m.r m.c A1 m.v.length p1] W fun e w'=>e= .returned (.bool false)/\Below W.heap.size W w'):=by
    intro W hW;have h:=aw m.r m.c m.v A1 _ p1 W ((HS1.out.below hbu).below hW) (by omega)
    have e:mvB ⟨m.r,m.c,m.v⟩=false:=g1;rw[e] at h
    exact h
   clear g1
   go_cut [28] (fun s28 wx=>s28= .bool true/\Below u1.heap.size u1 wx)
   case first =>
    first
     | go_region_law (first
      | (go_simp;go_at_call 57;refine(HV.out _ (by first|exact Below.refl _ _|exact Qb.drew)).mono ?_;rintro e wa ⟨rfl,hb⟩;have hA:Below u1.heap.size u1 wa:=bp hb (by first|exact Nat.le_refl _|simp) (by first|exact Below.refl _ _|exact Qb.drew);have HA:=Qh hA;have q0:=(B1_1.aa hA).cell 0;have q1:=(B1_1.aa hA).cell 1;have q2:=(B1_1.aa hA).cell 2;have qz:=(B1_1.aa hA).lt;have r0:=(hA.cell (p:=⟨b,off,none⟩) zb).trans e0;have r1:=(hA.cell (p:=⟨b,off+1,none⟩) zb).trans e1;have r2:=(hA.cell (p:=⟨b,off+2,none⟩) zb).trans e2;have rz:=Nat.lt_of_lt_of_le zb hA.size;clear hA hb)
      | fail)
     | fail
    all_goals (go_wp2_with fail;go_meet;exact⟨rfl,by first|exact HA.out|exact HA.out.drew⟩)
   obtain⟨rfl,hc⟩:=hcut;have HC:Hid (Below w.heap.size w wc):=hob.out.trans ((hbu.trans (hc.mono hbu.size)).mono hob.out.size);clear hc;go_wp2
   go_ret
   exact⟨by first|exact HNO.out|(rw[HNO.out];rfl),HC.out⟩
  by_cases g2:m.r=m.c
  ·cases g3:bS m m0
   ·have hfv:mr m0 m=false:=by unfold mr;simp[g1,g2,g3]
    have HNO:Hid (jN ms=false):=s8 HX0.out HXJ.out hfv;clear hfv;have g2b:(m.r == m.c)=true:=by simp[g2]
    have g2c:(m.r != m.c)=false:=by simp[bne,g2]
    clear g2
    go_wp2_with fail
    obtain⟨u1,hu1⟩:∃ u,u=(wr.alloc (.cells #[.int .i64 m.r,.int .i64 m.c,.slice A1 m.v.length p1] 37)):=⟨_,rfl⟩;rw[<-hu1];have hzu1:u1.heap.size<=wr.heap.size+1:=by rw[hu1];simp
    have hyu1:wr.heap.size+1<=u1.heap.size:=by rw[hu1];simp
    have B1_1:Blk u1 (wr.heap.size) 37 #[.int .i64 m.r,.int .i64 m.c,.slice A1 m.v.length p1]:=by rw[hu1];have h:=(Blk.new wr 37 #[.int .i64 m.r,.int .i64 m.c,.slice A1 m.v.length p1]);simpa using h
    have xb1:wr.heap.size<=wr.heap.size:=by omega
    have O1:Below wr.heap.size wr u1:=by rw[hu1];exact((Below.refl wr.heap.size wr).alloc (by first|omega|(simp;done)|(simp;omega)) _)
    have m1:wr.heap.size<=u1.heap.size:=by omega
    clear hu1;have z1_1:wr.heap.size<u1.heap.size:=B1_1.lt;have c1_1_0:u1.cell? ⟨wr.heap.size,0,none⟩=some (.int .i64 m.r):=B1_1.cell 0;have f1_1_0:u1.frozen? ⟨wr.heap.size,0,none⟩=false:=B1_1.frozen 0;have c1_1_1:u1.cell? ⟨wr.heap.size,1,none⟩=some (.int .i64 m.c):=B1_1.cell 1;have f1_1_1:u1.frozen? ⟨wr.heap.size,1,none⟩=false:=B1_1.frozen 1;have c1_1_2:u1.cell? ⟨wr.heap.size,2,none⟩=some (.slice A1 m.v.length p1):=B1_1.cell 2;have f1_1_2:u1.frozen? ⟨wr.heap.size,2,none⟩=false:=B1_1.frozen 2;have hbu:Below wr.heap.size wr u1:=O1;have zb:b<u1.heap.size:=Nat.lt_of_lt_of_le hbl hbu.size;have e0:u1.cell? ⟨b,off,none⟩=some (.int .i64 m0.r):=(hbu.cell (p:=⟨b,off,none⟩) hbl).trans d0;have e1:u1.cell? ⟨b,off+1,none⟩=some (.int .i64 m0.c):=(hbu.cell (p:=⟨b,off+1,none⟩) hbl).trans d1;have e2:u1.cell? ⟨b,off+2,none⟩=some (.slice A0 m0.v.length p0):=(hbu.cell (p:=⟨b,off+2,none⟩) hbl).trans d2;have HV:Hid (∀ W:World,Below u1.heap.size u1 W->Calls prog 57 #[MV m.r m.c A1 m.v.length p1] W fun e w'=>e= .returned (.bool true)/\Below W.heap.size W w'):=by
     intro W hW;have h:=aw m.r m.c m.v A1 _ p1 W ((HS1.out.below hbu).below hW) (by omega)
     have e:mvB ⟨m.r,m.c,m.v⟩=true:=g1;rw[e] at h
     exact h
    have HL:Hid (∀ W:World,Calls prog 195 #[MV m.r m.c A1 m.v.length p1,MV m0.r m0.c A0 m0.v.length p0] W fun e w'=>e= .returned (.bool false)/\Below W.heap.size W w'):=by
     intro W;have h:=eY m.r m.c m0.r m0.c A1 A0 m.v.length p1 m0.v.length p0 W m.v m0.v;have e:bS ⟨m.r,m.c,m.v⟩ ⟨m0.r,m0.c,m0.v⟩=false:=g3;rw[e] at h
     exact h
    clear g1 g3
    go_cut [28] (fun s28 wx=>s28= .bool true/\Below u1.heap.size u1 wx)
    case first =>
     first
      | go_region_law (first
       | (go_simp;go_at_call 57;refine(HV.out _ (by first|exact Below.refl _ _|exact Qb.drew)).mono ?_;rintro e wa ⟨rfl,hb⟩;have hA:Below u1.heap.size u1 wa:=bp hb (by first|exact Nat.le_refl _|simp) (by first|exact Below.refl _ _|exact Qb.drew);have HA:=Qh hA;have q0:=(B1_1.aa hA).cell 0;have q1:=(B1_1.aa hA).cell 1;have q2:=(B1_1.aa hA).cell 2;have qz:=(B1_1.aa hA).lt;have r0:=(hA.cell (p:=⟨b,off,none⟩) zb).trans e0;have r1:=(hA.cell (p:=⟨b,off+1,none⟩) zb).trans e1;have r2:=(hA.cell (p:=⟨b,off+2,none⟩) zb).trans e2;have rz:=Nat.lt_of_lt_of_le zb hA.size;clear hA hb)
       | (go_simp;go_at_call 195;refine(HL.out _).mono ?_;rintro e wb ⟨rfl,hb⟩;have hB:Below u1.heap.size u1 wb:=bp hb (by first|exact HA.out.size|(simp;exact HA.out.size)) (by first|exact HA.out|exact HA.out.drew);have HB:=Qh hB;clear hB hb)
       | fail)
      | fail
     all_goals (go_wp2_with fail;go_meet;exact⟨rfl,by first|exact HB.out|exact HB.out.drew⟩)
    obtain⟨rfl,hc⟩:=hcut;have HC:Hid (Below w.heap.size w wc):=hob.out.trans ((hbu.trans (hc.mono hbu.size)).mono hob.out.size);clear hc;go_wp2
    go_ret
    exact⟨by first|exact HNO.out|(rw[HNO.out];rfl),HC.out⟩
   ·have hfv:mr m0 m=true:=by unfold mr;simp[g1,g2,g3]
    have HYES:Hid (∀ k x,k<j+1->ms[k]?=some x->mr m0 x=true):=by
     intro k x hk hx
     by_cases hkj:k<j
     ·exact hfit.out k x hkj hx
     ·obtain rfl:k=j:=by omega
      rw[HXJ.out] at hx;injection hx with hx;subst hx
      exact hfv
    clear hfv;have g2b:(m.r == m.c)=true:=by simp[g2]
    have g2c:(m.r != m.c)=false:=by simp[bne,g2]
    clear g2
    go_wp2_with fail
    obtain⟨u1,hu1⟩:∃ u,u=(wr.alloc (.cells #[.int .i64 m.r,.int .i64 m.c,.slice A1 m.v.length p1] 37)):=⟨_,rfl⟩;rw[<-hu1];have hzu1:u1.heap.size<=wr.heap.size+1:=by rw[hu1];simp
    have hyu1:wr.heap.size+1<=u1.heap.size:=by rw[hu1];simp
    have B1_1:Blk u1 (wr.heap.size) 37 #[.int .i64 m.r,.int .i64 m.c,.slice A1 m.v.length p1]:=by rw[hu1];have h:=(Blk.new wr 37 #[.int .i64 m.r,.int .i64 m.c,.slice A1 m.v.length p1]);simpa using h
    have xb1:wr.heap.size<=wr.heap.size:=by omega
    have O1:Below wr.heap.size wr u1:=by rw[hu1];exact((Below.refl wr.heap.size wr).alloc (by first|omega|(simp;done)|(simp;omega)) _)
    have m1:wr.heap.size<=u1.heap.size:=by omega
    clear hu1;have z1_1:wr.heap.size<u1.heap.size:=B1_1.lt;have c1_1_0:u1.cell? ⟨wr.heap.size,0,none⟩=some (.int .i64 m.r):=B1_1.cell 0;have f1_1_0:u1.frozen? ⟨wr.heap.size,0,none⟩=false:=B1_1.frozen 0;have c1_1_1:u1.cell? ⟨wr.heap.size,1,none⟩=some (.int .i64 m.c):=B1_1.cell 1;have f1_1_1:u1.frozen? ⟨wr.heap.size,1,none⟩=false:=B1_1.frozen 1;have c1_1_2:u1.cell? ⟨wr.heap.size,2,none⟩=some (.slice A1 m.v.length p1):=B1_1.cell 2;have f1_1_2:u1.frozen? ⟨wr.heap.size,2,none⟩=false:=B1_1.frozen 2;have hbu:Below wr.heap.size wr u1:=O1;have zb:b<u1.heap.size:=Nat.lt_of_lt_of_le hbl hbu.size;have e0:u1.cell? ⟨b,off,none⟩=some (.int .i64 m0.r):=(hbu.cell (p:=⟨b,off,none⟩) hbl).trans d0;have e1:u1.cell? ⟨b,off+1,none⟩=some (.int .i64 m0.c):=(hbu.cell (p:=⟨b,off+1,none⟩) hbl).trans d1;have e2:u1.cell? ⟨b,off+2,none⟩=some (.slice A0 m0.v.length p0):=(hbu.cell (p:=⟨b,off+2,none⟩) hbl).trans d2;have HV:Hid (∀ W:World,Below u1.heap.size u1 W->Calls prog 57 #[MV m.r m.c A1 m.v.length p1] W fun e w'=>e= .returned (.bool true)/\Below W.heap.size W w'):=by
     intro W hW;have h:=aw m.r m.c m.v A1 _ p1 W ((HS1.out.below hbu).below hW) (by omega)
     have e:mvB ⟨m.r,m.c,m.v⟩=true:=g1;rw[e] at h
     exact h
    have HL:Hid (∀ W:World,Calls prog 195 #[MV m.r m.c A1 m.v.length p1,MV m0.r m0.c A0 m0.v.length p0] W fun e w'=>e= .returned (.bool true)/\Below W.heap.size W w'):=by
     intro W;have h:=eY m.r m.c m0.r m0.c A1 A0 m.v.length p1 m0.v.length p0 W m.v m0.v;have e:bS ⟨m.r,m.c,m.v⟩ ⟨m0.r,m0.c,m0.v⟩=true:=g3;rw[e] at h
     exact h
    clear g1 g3
    go_cut [28] (fun s28 wx=>s28= .bool false/\Below u1.heap.size u1 wx)
    case first =>
     first
      | go_region_law (first
       | (go_simp;go_at_call 57;refine(HV.out _ (by first|exact Below.refl _ _|exact Qb.drew)).mono ?_;rintro e wa ⟨rfl,hb⟩;have hA:Below u1.heap.size u1 wa:=bp hb (by first|exact Nat.le_refl _|simp) (by first|exact Below.refl _ _|exact Qb.drew);have HA:=Qh hA;have q0:=(B1_1.aa hA).cell 0;have q1:=(B1_1.aa hA).cell 1;have q2:=(B1_1.aa hA).cell 2;have qz:=(B1_1.aa hA).lt;have r0:=(hA.cell (p:=⟨b,off,none⟩) zb).trans e0;have r1:=(hA.cell (p:=⟨b,off+1,none⟩) zb).trans e1;have r2:=(hA.cell (p:=⟨b,off+2,none⟩) zb).trans e2;have rz:=Nat.lt_of_lt_of_le zb hA.size;clear hA hb)
       | (go_simp;go_at_call 195;refine(HL.out _).mono ?_;rintro e wb ⟨rfl,hb⟩;have hB:Below u1.heap.size u1 wb:=bp hb (by first|exact HA.out.size|(simp;exact HA.out.size)) (by first|exact HA.out|exact HA.out.drew);have HB:=Qh hB;clear hB hb)
       | fail)
      | fail
     all_goals (go_wp2_with fail;go_meet;exact⟨rfl,by first|exact HB.out|exact HB.out.drew⟩)
    obtain⟨rfl,hc⟩:=hcut;have HC:Hid (Below w.heap.size w wc):=hob.out.trans ((hbu.trans (hc.mono hbu.size)).mono hob.out.size);clear hc;go_wp2
    go_roundw
    case rel=>exact⟨j+1,by omega,by go_num,HC,HYES⟩
    case measure=>simp[intOf];omega
  ·have hfv:mr m0 m=false:=by unfold mr;simp[g1,g2]
   have HNO:Hid (jN ms=false):=s8 HX0.out HXJ.out hfv;clear hfv;have g2b:(m.r == m.c)=false:=by simp[g2]
   have g2c:(m.r != m.c)=true:=by simp[bne,g2]
   clear g2
   go_wp2_with fail
   obtain⟨u1,hu1⟩:∃ u,u=(wr.alloc (.cells #[.int .i64 m.r,.int .i64 m.c,.slice A1 m.v.length p1] 37)):=⟨_,rfl⟩;rw[<-hu1];have hzu1:u1.heap.size<=wr.heap.size+1:=by rw[hu1];simp
   have hyu1:wr.heap.size+1<=u1.heap.size:=by rw[hu1];simp
   have B1_1:Blk u1 (wr.heap.size) 37 #[.int .i64 m.r,.int .i64 m.c,.slice A1 m.v.length p1]:=by rw[hu1];have h:=(Blk.new wr 37 #[.int .i64 m.r,.int .i64 m.c,.slice A1 m.v.length p1]);simpa using h
   have xb1:wr.heap.size<=wr.heap.size:=by omega
   have O1:Below wr.heap.size wr u1:=by rw[hu1];exact((Below.refl wr.heap.size wr).alloc (by first|omega|(simp;done)|(simp;omega)) _)
   have m1:wr.heap.size<=u1.heap.size:=by omega
   clear hu1;have z1_1:wr.heap.size<u1.heap.size:=B1_1.lt;have c1_1_0:u1.cell? ⟨wr.heap.size,0,none⟩=some (.int .i64 m.r):=B1_1.cell 0;have f1_1_0:u1.frozen? ⟨wr.heap.size,0,none⟩=false:=B1_1.frozen 0;have c1_1_1:u1.cell? ⟨wr.heap.size,1,none⟩=some (.int .i64 m.c):=B1_1.cell 1;have f1_1_1:u1.frozen? ⟨wr.heap.size,1,none⟩=false:=B1_1.frozen 1;have c1_1_2:u1.cell? ⟨wr.heap.size,2,none⟩=some (.slice A1 m.v.length p1):=B1_1.cell 2;have f1_1_2:u1.frozen? ⟨wr.heap.size,2,none⟩=false:=B1_1.frozen 2;have hbu:Below wr.heap.size wr u1:=O1;have zb:b<u1.heap.size:=Nat.lt_of_lt_of_le hbl hbu.size;have e0:u1.cell? ⟨b,off,none⟩=some (.int .i64 m0.r):=(hbu.cell (p:=⟨b,off,none⟩) hbl).trans d0;have e1:u1.cell? ⟨b,off+1,none⟩=some (.int .i64 m0.c):=(hbu.cell (p:=⟨b,off+1,none⟩) hbl).trans d1;have e2:u1.cell? ⟨b,off+2,none⟩=some (.slice A0 m0.v.length p0):=(hbu.cell (p:=⟨b,off+2,none⟩) hbl).trans d2;have HV:Hid (∀ W:World,Below u1.heap.size u1 W->Calls prog 57 #[MV m.r m.c A1 m.v.length p1] W fun e w'=>e= .returned (.bool true)/\Below W.heap.size W w'):=by
    intro W hW;have h:=aw m.r m.c m.v A1 _ p1 W ((HS1.out.below hbu).below hW) (by omega)
    have e:mvB ⟨m.r,m.c,m.v⟩=true:=g1;rw[e] at h
    exact h
   clear g1
   go_cut [28] (fun s28 wx=>s28= .bool true/\Below u1.heap.size u1 wx)
   case first =>
    first
     | go_region_law (first
      | (go_simp;go_at_call 57;refine(HV.out _ (by first|exact Below.refl _ _|exact Qb.drew)).mono ?_;rintro e wa ⟨rfl,hb⟩;have hA:Below u1.heap.size u1 wa:=bp hb (by first|exact Nat.le_refl _|simp) (by first|exact Below.refl _ _|exact Qb.drew);have HA:=Qh hA;have q0:=(B1_1.aa hA).cell 0;have q1:=(B1_1.aa hA).cell 1;have q2:=(B1_1.aa hA).cell 2;have qz:=(B1_1.aa hA).lt;have r0:=(hA.cell (p:=⟨b,off,none⟩) zb).trans e0;have r1:=(hA.cell (p:=⟨b,off+1,none⟩) zb).trans e1;have r2:=(hA.cell (p:=⟨b,off+2,none⟩) zb).trans e2;have rz:=Nat.lt_of_lt_of_le zb hA.size;clear hA hb)
      | fail)
     | fail
    all_goals (go_wp2_with fail;go_meet;exact⟨rfl,by first|exact HA.out|exact HA.out.drew⟩)
   obtain⟨rfl,hc⟩:=hcut;have HC:Hid (Below w.heap.size w wc):=hob.out.trans ((hbu.trans (hc.mono hbu.size)).mono hob.out.size);clear hc;go_wp2
   go_ret
   exact⟨by first|exact HNO.out|(rw[HNO.out];rfl),HC.out⟩
 ·obtain rfl:j=n:=by omega
  have he:jN ms=true:=x_ HX0.out fun k x hk hx=>hfit.out k x (by have:=HLN.out;omega) hx
  have HE:=Qh he;clear he;go_wp2
  go_ret
  exact⟨by first|exact HE.out|(rw[HE.out];rfl),hob.out⟩
end Go.Proofs.YtjciicheoghcdaaGreatDoor
