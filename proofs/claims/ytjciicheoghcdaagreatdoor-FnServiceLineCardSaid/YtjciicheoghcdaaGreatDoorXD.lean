/- Part of the proof that the law FnServiceLine of the given program returns true for every input. -/
import Derived.Deep.AppendLies
import Derived.Test.YtjciicheoghcdaaGreatDoorXC
import Derived.Test.YtjciicheoghcdaaGreatDoorXg
namespace Go.Proofs.YtjciicheoghcdaaGreatDoor
open Go.RowKit
set_option linter.unusedSimpArgs false
set_option linter.unusedVariables false
set_option maxRecDepth 20000
set_option maxHeartbeats 16000000
section
attribute [local go_sem ↓] Go.wp_at_zero Go.wp_at_succ
def Dm0 (w:World) (rb P:Nat) (r c:Int) (e:Ending) (w':World):Prop:=∃ (A:Option Addr) (cp:Nat) (v:List Int),e= .returned (.agg #[.int .i64 r,.int .i64 c,.slice A v.length cp])/\OS w' w.heap.size A v.length cp v/\v.length<=26/\Rd w' rb P/\aZ rb w w'
theorem Mi.Fu {rb P P':Nat} {r c:Int} {w W:World} {j cp:Nat} {A:Option Addr} {xs:List Int} {a b d:Value} (h:Mi rb r c w P W j A cp xs) (hr:rb<w.heap.size) (hj:j<=26) (hP:P<=P') :
  Dm0 w rb P' r c (.returned (.agg #[.int .i64 r,.int .i64 c,.slice A j cp])) (((W.setCell ⟨w.heap.size,0,none⟩ a).setCell ⟨w.heap.size,1,none⟩ b).setCell ⟨w.heap.size,2,none⟩ d):=by
 obtain ⟨h1,h2,h3,h4,h5⟩:=h;have hl:=h3.len;subst hl
 exact ⟨A,cp,xs,rfl,((h3.dk h1 (by decide) _).dk (h1.dc 0 _) (by decide) _).dk ((h1.dc 0 _).dc 1 _) (by decide) _,hj,(((h5.setCell (by dsimp only;omega) _).setCell (by dsimp only;omega) _).setCell (by dsimp only;omega) _).mono (by omega),
  ((h4.setCell (.inr (Nat.le_refl _)) _).setCell (.inr (Nat.le_refl _)) _).setCell (.inr (Nat.le_refl _)) _⟩
theorem ln (rb P:Nat) (r c:Int) (hr:1<=r/\r<=5) (hc:1<=c/\c<=5) (w:World) (h:Rd w rb P) (hP:P<1000000):Calls Tryz.prog 121 #[.pointer (some ⟨rb,0,none⟩),.int .i64 r,.int .i64 c,.int .i64 0] w (Dm0 w rb (P+220) r c):=by
 obtain ⟨i0',hi,hz0,hz1,hz2⟩:=info_parts eU;have hrw:=h.lt;have N0:r*c<=5*5:=Int.mul_le_mul hr.2 hc.2 (by omega) (by omega)
 have N1:0<r*c:=Int.mul_pos (by omega) (by omega)
 obtain ⟨N,hN⟩:∃ N:Nat,r*c=(N:Int):=⟨(r*c).toNat,by omega⟩
 have hN1:1<=N:=by omega
 have hN2:N<=25:=by omega
 have hNl:N+1<=26:=by omega
 clear N0 N1;have hwN:IntKind.i64.wrap (r*c)=(N:Int):=by rw [hN];exact IntWalk.i64_in _ (by omega)
 have hNn:(0:Int)<(N:Int):=by omega
 have hM0:=Lib.hid (Mi.start (r:=r) (c:=c) h);have HN:=Lib.hid hN;obtain ⟨c1,c2⟩:=hc;clear h hr hN
 go_enter Tryz.func121,Tryz.ntmps121
 go_wp2
 go_loopw [10] (fun v10 wr=>∃ (j:Nat) (A:Option Addr) (cp:Nat) (xs:List Int),j<=N/\v10= .int .i64 (j:Int)/\Hid (Mi rb r c w (P+8*j) wr j A cp xs)) (fun k _=>((N:Int)-intOf k).toNat)
 case atStart=>exact ⟨0,none,0,[],by omega,by go_num,hM0⟩
 case round =>
  obtain ⟨j,A,cp,xs,hj,rfl,hm⟩:=hrel;clear hM0
  by_cases hk:j<N
  ·have hk':(j:Int)<(N:Int):=by omega
   have MD:=Lib.hid hm.out.drew;have hP2:P+8*j<1000200:=by omega
   have C1:Hid (∀ W:World,Rd W rb (P+8*j)->Calls Tryz.prog 71 #[.pointer (some ⟨rb,0,none⟩),.int .i64 64] W (Pk W rb (P+8*j+1) 64)):=fun W h=>ct rb _ 64 W h (by omega)
   have C2:Hid (∀ (x:Int) (W:World),Calls Tryz.prog 132 #[.int .i64 x] W fun e w'=>∃ y:Int,e= .returned (.int .i64 y)/\W=w'):=fun x W=>(bG x W).mono fun e w' h=>⟨_,h.1,h.2⟩
   have C3:Hid (∀ W:World,Rd W rb (P+8*j+1)->Calls Tryz.prog 162 #[.pointer (some ⟨rb,0,none⟩),.int .i64 0] W (Rg0 W rb (P+8*j+1+6))):=fun W h=>DV rb _ W h (by omega)
   have C4:Hid (∀ W:World,Rd W rb (P+8*j+1+6)->Calls Tryz.prog 71 #[.pointer (some ⟨rb,0,none⟩),.int .i64 4] W (Pk W rb (P+8*j+1+6+1) 4)):=fun W h=>ct rb _ 4 W h (by omega)
   have H2:Hid (j+1<=maxLen):=by unfold maxLen;show j+1<=_;omega
   have H3:Hid ((j+1)*8<=140737488355328):=by show (j+1)*8<=_;omega
   have cM:wr.cell? ⟨w.heap.size+1,2,none⟩=some (.slice A j cp):=hm.out.kx;have zM:=hm.out.lt
   go_upto_region 5 with fail
   go_region_law (first
    | (refine step_append_lies _ (by rfl) _ _ _ (by rfl) w.heap.size 3 i0' (.int .i64 0) 1 8 Tryz.underlying35 hi hz0 hz1 hz2 rfl (by omega) (.slice A j cp) j _ (by rfl) (World.ownsRow.alloc MC.out.os _) ⟨wc.heap.size,0,none⟩ 1 1 [.int .i64 v] (by rfl) rfl (fun jj u h=>HN1.out jj u h) H1.out (by omega) H2.out H3.out H4.out (wc.heap.size+1) H5.out ?_;intro g cap w1 hown hgrow hat hlt1;have HA:=Lib.hid (Mi.app MC.out hrw hown hgrow hat);clear hown hgrow hat;have kT:=HA.out.2.1.cell 2;have fT:=HA.out.2.1.frozen 2;have zT:=HA.out.2.1.lt)
    | (refine step_append_lies _ (by rfl) _ _ _ (by rfl) w.heap.size 3 i0' (.int .i64 0) 1 8 Tryz.underlying35 hi hz0 hz1 hz2 rfl (by omega) (.slice A j cp) j _ (by rfl) (World.ownsRow.alloc (MC.out.alloc (.cells #[.int .i64 xx,.int .i64 yy] 3)).os _) ⟨wc.heap.size+1,0,none⟩ 1 1 [.int .i64 v] (by rfl) rfl (fun jj u h=>HN1.out jj u h) H1.out (by omega) H2.out H3.out H4.out (wc.heap.size+1+1) H5.out ?_;intro g cap w1 hown hgrow hat hlt1;have HA:=Lib.hid (Mi.app (MC.out.alloc (.cells #[.int .i64 xx,.int .i64 yy] 3)) hrw hown hgrow (hat.imp id fun e=>e.trans (by rw [World.size_alloc])));clear hown hgrow hat;have kT:=HA.out.2.1.cell 2;have fT:=HA.out.2.1.frozen 2;have zT:=HA.out.2.1.lt)
    | (go_simp;go_at_call 71;(with_reducible refine (C1.out _ MD.out.rd).mono ?_);rintro e wa ⟨a,rfl,a0,a1,r',o'⟩;have a2:a<=63:=(by omega);have MA:=Lib.hid (MD.out.only hrw o' r');have cA:=MA.out.kx;have fA:=MA.out.DC;have zA:=MA.out.lt;clear a1 r' o')
    | (go_simp;go_at_call 132;refine (C2.out _ _).mono ?_;rintro e w' ⟨xx,rfl,rfl⟩)
    | (go_simp;go_at_call 162;(with_reducible refine (C3.out _ MA.out.rd).mono ?_);rintro e wb ⟨yy,rfl,y0,y1,r',o'⟩;have MB:=Lib.hid (MA.out.only hrw o' r');have cB:=MB.out.kx;have fB:=MB.out.DC;have zB:=MB.out.lt;clear y0 y1 r' o')
    | (go_simp;go_at_call 71;(with_reducible refine (C4.out _ (MB.out.alloc _).rd).mono ?_);rintro e wc ⟨q,rfl,q0,q1,r',o'⟩;have q2:q<6:=(by omega);clear q1;obtain ⟨d,hd,d0,d1⟩:=DQ (q:=q) (n:=3) (by omega) q0 q2;have hwd:=IntWalk.i64_in d (by omega);obtain ⟨v,hv,hvv⟩:=D_ xx yy d d0 d1;have MC:=Lib.hid ((MB.out.alloc (.cells #[.int .i64 xx,.int .i64 yy] 3)).only hrw o' r');have cC:=MC.out.kx;have fC:=MC.out.DC;have zC:=MC.out.lt;have zb:wb.heap.size<wc.heap.size:=(by have:=o'.size;simp at this;omega);have cX:wc.cell? ⟨wb.heap.size,d.toNat,none⟩=some (.int .i64 v):=(o'.cell (by simp) (by omega)).trans (zq wb hv);have HN1:=Lib.hid (cell_one_new wc (.int .i64 v) 3);have H1:Hid (∀ u∈[Value.int .i64 v],u.oneCell'=true):=(by intro u hu;simp at hu;subst hu;rfl);have H4:Hid (w.heap.size<=(wc.alloc (.cells #[.int .i64 v] 3)).heap.size):=(by show w.heap.size<=_;simp;omega);have H5:Hid ((wc.alloc (.cells #[.int .i64 v] 3)).heap.size=wc.heap.size+1):=(by show _=_;simp);have cL:(wc.alloc (.cells #[.int .i64 v] 3)).cell? ⟨w.heap.size+1,2,none⟩=some (.slice A j cp):=(MC.out.alloc (.cells #[.int .i64 v] 3)).kx;clear hvv r' o' hv)
    | (go_simp;go_at_call 71;(with_reducible refine (C4.out _ MB.out.rd).mono ?_);rintro e wc ⟨q,rfl,q0,q1,r',o'⟩;have q2:q<6:=(by omega);clear q1;obtain ⟨d,hd,d0,d1⟩:=DQ (q:=q) (n:=3) (by omega) q0 q2;have hwd:=IntWalk.i64_in d (by omega);obtain ⟨v,hv,hvv⟩:=D_ xx yy d d0 d1;have MC:=Lib.hid (MB.out.only hrw o' r');have cC:=MC.out.kx;have fC:=MC.out.DC;have zC:=MC.out.lt;have cX:(wc.alloc (.cells #[.int .i64 xx,.int .i64 yy] 3)).cell? ⟨wc.heap.size,d.toNat,none⟩=some (.int .i64 v):=zq wc hv;have hv2:=hv;obtain ⟨_,hve⟩:=List.getElem?_eq_some_iff.1 hv2;have HN1:Hid (∀ jj u,[Value.int .i64 v][jj]?=some u->((wc.alloc (.cells #[.int .i64 xx,.int .i64 yy] 3)).alloc (.cells #[.int .i64 v] 3)).cell? ((⟨wc.heap.size+1,0,none⟩:Addr).add jj)=some u):=(by have h:=cell_one_new (wc.alloc (.cells #[.int .i64 xx,.int .i64 yy] 3)) (.int .i64 v) 3;rw [World.size_alloc] at h;exact h);have H1:Hid (∀ u∈[Value.int .i64 v],u.oneCell'=true):=(by intro u hu;simp at hu;subst hu;rfl);have H4:Hid (w.heap.size<=((wc.alloc (.cells #[.int .i64 xx,.int .i64 yy] 3)).alloc (.cells #[.int .i64 v] 3)).heap.size):=(by show w.heap.size<=_;simp;omega);have H5:Hid (((wc.alloc (.cells #[.int .i64 xx,.int .i64 yy] 3)).alloc (.cells #[.int .i64 v] 3)).heap.size=(wc.heap.size+1)+1):=(by show _=_;simp);have cL0:(wc.alloc (.cells #[.int .i64 xx,.int .i64 yy] 3)).cell? ⟨w.heap.size+1,2,none⟩=some (.slice A j cp):=(MC.out.alloc (.cells #[.int .i64 xx,.int .i64 yy] 3)).kx;have cL:((wc.alloc (.cells #[.int .i64 xx,.int .i64 yy] 3)).alloc (.cells #[.int .i64 v] 3)).cell? ⟨w.heap.size+1,2,none⟩=some (.slice A j cp):=((MC.out.alloc (.cells #[.int .i64 xx,.int .i64 yy] 3)).alloc (.cells #[.int .i64 v] 3)).kx;clear hvv r' o'))
   all_goals
    go_wp2
    go_roundw
    case rel=>exact ⟨j+1,some ⟨g,0,none⟩,cap,xs++[v],by omega,by go_num,Lib.hid ((Ma.next HA.out hrw).mono (by omega))⟩
    case measure=>simp [intOf];omega
  ·obtain rfl:j=N:=by omega
   go_wp2_with fail
   refine (DH rb wr).mono ?_;rintro e w' ⟨rfl,rfl⟩;have za1:w.heap.size<wr.heap.size:=by have:=hm.out.lt;omega
   have za2:w.heap.size+1<wr.heap.size:=hm.out.lt;have ca00:wr.cell? ⟨w.heap.size,0,none⟩=some (.int .i64 0):=hm.out.1.cell 0;have fa00:wr.frozen? ⟨w.heap.size,0,none⟩=false:=hm.out.1.frozen 0;have ca01:wr.cell? ⟨w.heap.size,1,none⟩=some (.int .i64 0):=hm.out.1.cell 1;have fa01:wr.frozen? ⟨w.heap.size,1,none⟩=false:=hm.out.1.frozen 1;have ca02:wr.cell? ⟨w.heap.size,2,none⟩=some (.slice none 0 0):=hm.out.1.cell 2;have fa02:wr.frozen? ⟨w.heap.size,2,none⟩=false:=hm.out.1.frozen 2;have ca10:wr.cell? ⟨w.heap.size+1,0,none⟩=some (.int .i64 r):=hm.out.2.1.cell 0;have fa10:wr.frozen? ⟨w.heap.size+1,0,none⟩=false:=hm.out.2.1.frozen 0;have ca11:wr.cell? ⟨w.heap.size+1,1,none⟩=some (.int .i64 c):=hm.out.2.1.cell 1;have fa11:wr.frozen? ⟨w.heap.size+1,1,none⟩=false:=hm.out.2.1.frozen 1;have ca12:wr.cell? ⟨w.heap.size+1,2,none⟩=some (.slice A j cp):=hm.out.2.1.cell 2;have fa12:wr.frozen? ⟨w.heap.size+1,2,none⟩=false:=hm.out.2.1.frozen 2;go_wp2
   exact bodyPost_ret (v:= .agg #[.int .i64 r,.int .i64 c,.slice A j cp]) (by simp [results,Tryz.results121,go_sem,za1,za2,ca00,fa00,ca01,fa01,ca02,fa02,ca10,fa10,ca11,fa11,ca12,fa12,(by omega:¬ w.heap.size=w.heap.size+1),(by omega:¬ w.heap.size+1=w.heap.size)]) rfl (Mi.Fu hm.out hrw (by omega) (by omega))
end
section
section
variable {α:Type} {E:Elt α} {w w':World} {base rb n cap:Nat} {A:Option Addr} {T:TypeId} {css:List (List Value)} {xs:List α} {F:List Nat}
theorem RI.only (h:RI E w A n cap xs F) (ho:aZ rb w w') (hf:rb∉F):RI E w' A n cap xs F:=h.au fun g hg=>ho.block g (h.lt g hg) (fun e=>hf (by injection e with e;rw [<- e];exact hg))
theorem Fr.only (h:Fr w base F) (ho:aZ rb w w') (hr:rb<base):Fr w' base F:=h.au fun g hg=>ho.block g (h.lt g hg) (fun e=>by have:=(h.2 g hg).1;injection e;omega)
theorem Fr.not (h:Fr w base F) (hr:rb<base):rb∉F:=fun hg=>by have:=(h.2 rb hg).1;omega
theorem OX.only (h:OX E w base T A n cap css xs F) (ho:aZ rb w w') (hr:rb<base):OX E w' base T A n cap css xs F:=h.au ho.size fun g hl hg=>ho.block g hl (fun e=>by
 injection e with e;rcases hg with hg | hg
 ·have:=(h.aj g hg).1;omega
 ·have:=(h.2.2.2.1.2 g hg).1;omega)
theorem OX.lit (W:World) (hb:base<=W.heap.size) (T:TypeId) (h:dJ E W css xs F) (hf:Fr W base F) (hn:xs.length<=maxLen):OX E (W.alloc (.cells css.flatten.toArray T)) base T (some ⟨W.heap.size,0,none⟩) xs.length xs.length css xs F:=by
 refine ⟨?_,rfl,h.au fun g hg=>Below.heap_alloc W _ g (h.lt g hg),hf.au fun g hg=>Below.heap_alloc W _ g (h.lt g hg),fun g hg hF=> ?_⟩
 ·have hl:css.flatten.length=xs.length*E.s:=dS h;have:=World.ownsRow_lit (base:=base) (e:=T) (size:=E.s) W css.flatten.toArray xs.length hb hn (by simpa using hl)
  rw [show css.flatten.toArray.toList=css.flatten by simp] at this
  exact this
 ·have e:W.heap.size=g:=by simpa [blk] using hg
  have:=h.lt g hF
  omega
end
def Sdn (w:World) (rb P:Nat) (e:Ending) (w':World):Prop:=∃ v:Int,e= .returned (.int .i64 v)/\Rd w' rb P/\aZ rb w w'
theorem Ea (rb P:Nat) (n:Int) (hn:0<=n/\n<=1000000) (w:World) (h:Rd w rb P) (hP:P<549755813888):Calls Tryz.prog 74 #[.pointer (some ⟨rb,0,none⟩),.int .i64 n] w (Sdn w rb (P+3)):=by
 have hrw:=h.lt
 go_enter Tryz.func74,Tryz.ntmps74
 go_wp2_with fail
 refine (EG rb P n hn w h (by omega)).mono ?_
 rintro e w1 ⟨v,rfl,r1,o1⟩;have t1:=r1.lt;clear h
 cases v
 ·go_wp2_with fail
  refine (ct rb (P+1) 256 w1 r1 (by omega)).mono ?_
  rintro e w2 ⟨v2,rfl,a2,b2,r2,o2⟩;have c2:v2<=255:=by omega
  have t2:=r2.lt;clear b2
  go_wp2_with fail
  refine (ct rb (P+1+1) 6 _ ((r2.alloc _).alloc _) (by omega)).mono ?_
  rintro e w3 ⟨v3,rfl,a3,b3,r3,o3⟩;have c3:v3<6:=by omega
  clear b3;obtain ⟨x,hx,x0,x1⟩:=rj [0,0,0,0,1,2] 0 2 (by simp) v3 a3 (by simp;omega)
  obtain ⟨y,hy,y0,y1⟩:=rj [1+v2*8000000,1,2147483646] 0 2147483646 (by simp;omega) x x0 (by simp;omega)
  have hcx:w3.cell? ⟨w2.heap.size+1,v3.toNat,none⟩=some (.int .i64 x):=by
   rw [o3.cell (by simp) (by omega)]
   have:=kr (w2.alloc (.cells #[.int .i64 (1+v2*8000000),.int .i64 1,.int .i64 2147483646] 3)) [0,0,0,0,1,2] 3 v3.toNat;rw [hx,World.size_alloc] at this
   exact this
  have hcy:w3.cell? ⟨w2.heap.size,x.toNat,none⟩=some (.int .i64 y):=by
   rw [o3.cell (by simp;omega) (by omega),World.cell?_alloc_lt _ _ _ (by simp)]
   have:=kr w2 [1+v2*8000000,1,2147483646] 3 x.toNat;rw [hy] at this
   exact this
  have O3:=Lib.hid ((o1.trans o2).trans ((((aZ.refl rb w2).alloc _).alloc _).trans o3));clear o1 o2 o3 hx hy r1 r2;have xx:x<3:=by omega
  go_wp2
  go_ret
  exact ⟨y,rfl,r3.mono (by omega),O3.out⟩
 ·go_wp2_with fail
  refine (ct rb (P+1) 3 _ (r1.alloc _) (by omega)).mono ?_
  rintro e w2 ⟨v2,rfl,a2,b2,r2,o2⟩;have c2:v2<3:=by omega
  clear b2;obtain ⟨y,hy,y0,y1⟩:=rj [0,-1,2147483647] (-1) 2147483647 (by simp) v2 a2 (by simp;omega)
  have hcy:w2.cell? ⟨w1.heap.size,v2.toNat,none⟩=some (.int .i64 y):=by
   rw [o2.cell (by simp) (by omega)]
   have:=kr w1 [0,-1,2147483647] 3 v2.toNat;rw [hy] at this
   exact this
  have O3:=Lib.hid (o1.trans (((aZ.refl rb w1).alloc _).trans o2));clear o1 o2 hy r1;go_wp2
  go_ret
  exact ⟨y,rfl,r2.mono (by omega),O3.out⟩
def DLy (w:World) (rb P:Nat) (kd:Int) (e:Ending) (w':World):Prop:=∃ A n c ms F,e= .returned (.agg #[.int .i64 kd,.slice A n c])/\RI mxE w' A n c ms F/\Fr w' w.heap.size F/\n<=3/\(∀ m,m∈ms->m.v.length<=26)/\(kd=1->∃ m0,ms[0]?=some m0/\1<=m0.r/\m0.r<=5)/\Rd w' rb P/\aZ rb w w'
section
variable {w w1 w2 w3 w4:World} {rb:Nat}
theorem MF.only {A:Option Addr} {c:Nat} {m:Mx} {F:List Nat} {base:Nat} (h:MF w A c m F) (hf:∀ g,g∈F->base<=g) (ho:aZ rb w w1) (hr:rb<base):MF w1 A c m F:=h.au fun g hg=>ho.block g (h.lt g hg) (fun e=>by injection e with e;have:=hf g hg;omega)
end
theorem Ef (rb P:Nat) (rows cols:Int) (hr:1<=rows/\rows<=5) (hc:1<=cols/\cols<=5) (w:World) (h:Rd w rb P) (hP:P<900000) :
  Calls Tryz.prog 161 #[.pointer (some ⟨rb,0,none⟩),.int .i64 1,.int .i64 rows,.int .i64 cols,.int .i64 0] w (DLy w rb (P+700) 1):=by
 obtain ⟨u1,hu1⟩:∃ u,u=((w.alloc (.cells #[.int .i64 0,.slice none 0 0] 80)).alloc (.cells #[.int .i64 1,.slice none 0 0] 80)):=⟨_,rfl⟩;have b0_1:Blk u1 w.heap.size 80 #[.int .i64 0,.slice none 0 0]:=by rw [hu1];exact (Blk.new _ _ _).alloc _
 have b1_1:Blk u1 (w.heap.size+1) 80 #[.int .i64 1,.slice none 0 0]:=by rw [hu1];have h:=Blk.new (w.alloc (.cells #[.int .i64 0,.slice none 0 0] 80)) 80 #[.int .i64 1,.slice none 0 0];simpa using h
 have r_1:Rd u1 rb P:=by rw [hu1];exact (h.alloc _).alloc _
 have o_1:aZ rb w u1:=by rw [hu1];exact ((aZ.refl rb w).alloc _).alloc _
 have hrw:=h.lt;clear h
 go_enter Tryz.func161,Tryz.ntmps161
 go_wp2_with fail
 rw [<- hu1];have s_1:w.heap.size+2<=u1.heap.size:=by rw [hu1];simp
 clear hu1;refine (ct rb P 3 u1 r_1 (by omega)).mono ?_
 rintro e w2 ⟨v,rfl,v0,v1,r',o'⟩;have v2:v<=2:=by omega
 clear v1;have b0_2:=b0_1.only o' (by omega)
 have b1_2:=b1_1.only o' (by omega)
 have r_2:=r';have o_2:=o_1.trans o';have s_2:=o_2.size;have t_2:=o'.size;clear b0_1 b1_1 r_1 o_1 o' r';have hv5:=IntWalk.i64_in (1+v) (by omega)
 go_wp2_with fail
 refine (ln rb (P+1) (1+v) (rows) (by omega) hr w2 r_2 (by omega)).mono ?_
 rintro e w3 ⟨A0,c0,x0,rfl,hos,hl0,r',o'⟩;have b0_3:=b0_2.only o' (by omega)
 have b1_3:=b1_2.only o' (by omega)
 have r_3:=r';have o_3:=o_2.trans o';have s_3:=o_3.size;have t_3:=o'.size;clear b0_2 b1_2 r_2 o_2 o' r';have hos0_3:=hos;have hlt0:∀ g,blk A0=some g->g<w3.heap.size:=fun g hg=>(hos0_3.aj g hg).2
 clear hos;have hbs0:w.heap.size+2<=w2.heap.size:=by omega
 go_wp2_with fail
 refine (ln rb (P+1+220) (1+v) (1) (by omega) (by omega) w3 r_3 (by omega)).mono ?_
 rintro e w4 ⟨A1,c1,x1,rfl,hos,hl1,r',o'⟩;have b0_4:=b0_3.only o' (by omega)
 have b1_4:=b1_3.only o' (by omega)
 have r_4:=r';have o_4:=o_3.trans o';have hos0_4:=hos0_3.only o' (by omega)
 have s_4:=o_4.size;have t_4:=o'.size;clear b0_3 b1_3 r_3 o_3 o' r' hos0_3;have hos1_4:=hos;have hlt1:∀ g,blk A1=some g->g<w4.heap.size:=fun g hg=>(hos1_4.aj g hg).2
 clear hos;have hbs1:w.heap.size+2<=w3.heap.size:=by omega
 have HMF:Hid (∃ F,dJ mxE w4 [[.int .i64 (1+v),.int .i64 (rows),.slice A0 x0.length c0],[.int .i64 (1+v),.int .i64 (1),.slice A1 x1.length c1]] [(⟨1+v,rows,x0⟩:Mx),(⟨1+v,1,x1⟩:Mx)] F/\Fr w4 (w.heap.size+2) F):=by
  have f0:=ek hos0_4;have f1:=ek hos1_4;have hd0:∀ g,g∈fpI A0 x0.length->g∈fpI A1 x1.length->False:=by
   intro g h1 h2;have a1:=hlt0 g (bz h1).2;rcases h2 with h2
   ·have a2:=(hos1_4.aj g (bz h2).2).1;omega
  have hd1:∀ g,g∈fpI A1 x1.length->False->False:=by
   intro g h1 h2;exact h2
  exact ⟨_,⟨_,_,rfl,⟨A0,c0,rfl,MF.aB (m:=⟨1+v,rows,x0⟩) hos0_4⟩,⟨_,_,rfl,⟨A1,c1,rfl,MF.aB (m:=⟨1+v,1,x1⟩) hos1_4⟩,rfl⟩⟩,Fr.app (f0.mono (by omega)) (Fr.app (f1.mono (by omega)) (Fr.nil _ _) (fun g h1 h2=>by cases h2)) (fun g h1 h2=>hd0 g h1 (by simpa using h2))⟩
 have z0:w.heap.size<w4.heap.size:=b0_4.lt;have z1:w.heap.size+1<w4.heap.size:=b1_4.lt;have cb00:w4.cell? ⟨w.heap.size,0,none⟩=some (.int .i64 0):=b0_4.cell 0;have fb00:w4.frozen? ⟨w.heap.size,0,none⟩=false:=b0_4.frozen 0;have cb01:w4.cell? ⟨w.heap.size,1,none⟩=some (.slice none 0 0):=b0_4.cell 1;have fb01:w4.frozen? ⟨w.heap.size,1,none⟩=false:=b0_4.frozen 1;have cb10:w4.cell? ⟨w.heap.size+1,0,none⟩=some (.int .i64 1):=b1_4.cell 0;have fb10:w4.frozen? ⟨w.heap.size+1,0,none⟩=false:=b1_4.frozen 0;have cb11:w4.cell? ⟨w.heap.size+1,1,none⟩=some (.slice none 0 0):=b1_4.cell 1;have fb11:w4.frozen? ⟨w.heap.size+1,1,none⟩=false:=b1_4.frozen 1
 go_wp2_with fail
 refine (DH rb _).mono ?_;rintro e w' ⟨rfl,rfl⟩;obtain ⟨F,hE,hF⟩:=HMF.out;have hkk:∀ g,g∈F->(((w4.setCell ⟨w.heap.size+1,1,none⟩ (.slice (some ⟨w4.heap.size,0,none⟩) 2 2)).setCell ⟨w.heap.size,0,none⟩ (.int .i64 1)).setCell ⟨w.heap.size,1,none⟩ (.slice (some ⟨w4.heap.size,0,none⟩) 2 2)).heap[g]?=w4.heap[g]?:=fun g hg=>by
  have:=(hF.2 g hg).1
  exact (Below.heap_setCell _ _ _ g (by dsimp only;omega)).trans ((Below.heap_setCell _ _ _ g (by dsimp only;omega)).trans (Below.heap_setCell _ _ _ g (by dsimp only;omega)))
 have hzz:(((w4.setCell ⟨w.heap.size+1,1,none⟩ (.slice (some ⟨w4.heap.size,0,none⟩) 2 2)).setCell ⟨w.heap.size,0,none⟩ (.int .i64 1)).setCell ⟨w.heap.size,1,none⟩ (.slice (some ⟨w4.heap.size,0,none⟩) 2 2)).heap.size=w4.heap.size:=by simp [World.setCell]
 have hox:=OX.lit (((w4.setCell ⟨w.heap.size+1,1,none⟩ (.slice (some ⟨w4.heap.size,0,none⟩) 2 2)).setCell ⟨w.heap.size,0,none⟩ (.int .i64 1)).setCell ⟨w.heap.size,1,none⟩ (.slice (some ⟨w4.heap.size,0,none⟩) 2 2)) (base:=w.heap.size+2) (by rw [hzz];omega) 37 (hE.au hkk) (hF.au hkk) (by unfold maxLen;simp)
 rw [hzz] at hox;clear hkk hzz;obtain ⟨F2,hr2,hf2⟩:=hox.ri;simp only [List.flatten_cons,List.flatten_nil,List.cons_append,List.nil_append,List.length_cons,List.length_nil] at hr2 hf2;have HR2:=Lib.hid hr2;have HF2:=Lib.hid hf2;clear hE hF hox hr2 hf2 HMF;have HR:=Lib.hid r_4;have HO:=Lib.hid o_4;clear r_4 o_4 hos0_4 hlt0 hos1_4 hlt1;go_wp2
 exact bodyPost_ret (v:= .agg #[.int .i64 1,.slice (some ⟨w4.heap.size,0,none⟩) 2 2]) (by simp [results,Tryz.results161,go_sem,z0,z1,cb00,fb00,cb01,fb01,cb10,fb10,cb11,fb11]) rfl ⟨_,2,2,[(⟨1+v,rows,x0⟩:Mx),(⟨1+v,1,x1⟩:Mx)],F2,rfl,HR2.out,HF2.out.mono (by omega),by omega,by intro m hm;simp at hm;rcases hm with rfl | rfl <;> assumption,fun _=>⟨_,rfl,by dsimp only;omega,by dsimp only;omega⟩,((((((HR.out.setCell (by dsimp only;omega) _).setCell (by dsimp only;omega) _).setCell (by dsimp only;omega) _).alloc _))).mono (by omega),(((((HO.out.setCell (.inr (by dsimp only;omega)) _).setCell (.inr (by dsimp only;omega)) _).setCell (.inr (by dsimp only;omega)) _).alloc _))⟩
theorem Eg (rb P:Nat) (rows cols:Int) (hr:1<=rows/\rows<=5) (hc:1<=cols/\cols<=5) (w:World) (h:Rd w rb P) (hP:P<900000) :
  Calls Tryz.prog 161 #[.pointer (some ⟨rb,0,none⟩),.int .i64 2,.int .i64 rows,.int .i64 cols,.int .i64 0] w (DLy w rb (P+700) 2):=by
 obtain ⟨u1,hu1⟩:∃ u,u=((w.alloc (.cells #[.int .i64 0,.slice none 0 0] 80)).alloc (.cells #[.int .i64 2,.slice none 0 0] 80)):=⟨_,rfl⟩;have b0_1:Blk u1 w.heap.size 80 #[.int .i64 0,.slice none 0 0]:=by rw [hu1];exact (Blk.new _ _ _).alloc _
 have b1_1:Blk u1 (w.heap.size+1) 80 #[.int .i64 2,.slice none 0 0]:=by rw [hu1];have h:=Blk.new (w.alloc (.cells #[.int .i64 0,.slice none 0 0] 80)) 80 #[.int .i64 2,.slice none 0 0];simpa using h
 have r_1:Rd u1 rb P:=by rw [hu1];exact (h.alloc _).alloc _
 have o_1:aZ rb w u1:=by rw [hu1];exact ((aZ.refl rb w).alloc _).alloc _
 have hrw:=h.lt;clear h
 go_enter Tryz.func161,Tryz.ntmps161
 go_wp2_with fail
 rw [<- hu1];have s_1:w.heap.size+2<=u1.heap.size:=by rw [hu1];simp
 clear hu1;have z0:w.heap.size<u1.heap.size:=b0_1.lt;have z1:w.heap.size+1<u1.heap.size:=b1_1.lt;have cb00:u1.cell? ⟨w.heap.size,0,none⟩=some (.int .i64 0):=b0_1.cell 0;have fb00:u1.frozen? ⟨w.heap.size,0,none⟩=false:=b0_1.frozen 0;have cb01:u1.cell? ⟨w.heap.size,1,none⟩=some (.slice none 0 0):=b0_1.cell 1;have fb01:u1.frozen? ⟨w.heap.size,1,none⟩=false:=b0_1.frozen 1;have cb10:u1.cell? ⟨w.heap.size+1,0,none⟩=some (.int .i64 2):=b1_1.cell 0;have fb10:u1.frozen? ⟨w.heap.size+1,0,none⟩=false:=b1_1.frozen 0;have cb11:u1.cell? ⟨w.heap.size+1,1,none⟩=some (.slice none 0 0):=b1_1.cell 1;have fb11:u1.frozen? ⟨w.heap.size+1,1,none⟩=false:=b1_1.frozen 1
 go_wp2_with fail
 refine (DH rb _).mono ?_;rintro e w' ⟨rfl,rfl⟩;have HR:=Lib.hid r_1;have HO:=Lib.hid o_1;clear r_1 o_1;go_wp2
 exact bodyPost_ret (v:= .agg #[.int .i64 2,.slice none 0 0]) (by simp [results,Tryz.results161,go_sem,z0,z1,cb00,fb00,cb01,fb01,cb10,fb10,cb11,fb11]) rfl ⟨none,0,0,[],[],rfl,RI.nil _ none (by unfold maxLen;omega),Fr.nil _ _,by omega,(fun m hm=>by cases hm),fun h=>absurd h (by decide),(((HR.out.setCell (by dsimp only;omega) _).setCell (by dsimp only;omega) _)).mono (by omega),((HO.out.setCell (.inr (by dsimp only;omega)) _).setCell (.inr (by dsimp only;omega)) _)⟩
theorem Eh (rb P:Nat) (rows cols:Int) (hr:1<=rows/\rows<=5) (hc:1<=cols/\cols<=5) (w:World) (h:Rd w rb P) (hP:P<900000) :
  Calls Tryz.prog 161 #[.pointer (some ⟨rb,0,none⟩),.int .i64 3,.int .i64 rows,.int .i64 cols,.int .i64 0] w (DLy w rb (P+700) 3):=by
 obtain ⟨u1,hu1⟩:∃ u,u=((w.alloc (.cells #[.int .i64 0,.slice none 0 0] 80)).alloc (.cells #[.int .i64 3,.slice none 0 0] 80)):=⟨_,rfl⟩;have b0_1:Blk u1 w.heap.size 80 #[.int .i64 0,.slice none 0 0]:=by rw [hu1];exact (Blk.new _ _ _).alloc _
 have b1_1:Blk u1 (w.heap.size+1) 80 #[.int .i64 3,.slice none 0 0]:=by rw [hu1];have h:=Blk.new (w.alloc (.cells #[.int .i64 0,.slice none 0 0] 80)) 80 #[.int .i64 3,.slice none 0 0];simpa using h
 have r_1:Rd u1 rb P:=by rw [hu1];exact (h.alloc _).alloc _
 have o_1:aZ rb w u1:=by rw [hu1];exact ((aZ.refl rb w).alloc _).alloc _
 have hrw:=h.lt;clear h
 go_enter Tryz.func161,Tryz.ntmps161
 go_wp2_with fail
 rw [<- hu1];have s_1:w.heap.size+2<=u1.heap.size:=by rw [hu1];simp
 clear hu1;refine (ln rb (P) (cols) (cols) hc hc u1 r_1 (by omega)).mono ?_
 rintro e w2 ⟨A0,c0,x0,rfl,hos,hl0,r',o'⟩;have b0_2:=b0_1.only o' (by omega)
 have b1_2:=b1_1.only o' (by omega)
 have r_2:=r';have o_2:=o_1.trans o';have s_2:=o_2.size;have t_2:=o'.size;clear b0_1 b1_1 r_1 o_1 o' r';have hos0_2:=hos;have hlt0:∀ g,blk A0=some g->g<w2.heap.size:=fun g hg=>(hos0_2.aj g hg).2
 clear hos;have hbs0:w.heap.size+2<=u1.heap.size:=by omega
 go_wp2_with fail
 refine (ln rb (P+220) (cols) (cols) hc hc w2 r_2 (by omega)).mono ?_
 rintro e w3 ⟨A1,c1,x1,rfl,hos,hl1,r',o'⟩;have b0_3:=b0_2.only o' (by omega)
 have b1_3:=b1_2.only o' (by omega)
 have r_3:=r';have o_3:=o_2.trans o';have hos0_3:=hos0_2.only o' (by omega)
 have s_3:=o_3.size;have t_3:=o'.size;clear b0_2 b1_2 r_2 o_2 o' r' hos0_2;have hos1_3:=hos;have hlt1:∀ g,blk A1=some g->g<w3.heap.size:=fun g hg=>(hos1_3.aj g hg).2
 clear hos;have hbs1:w.heap.size+2<=w2.heap.size:=by omega
 go_wp2_with fail
 refine (ln rb (P+220+220) (cols) (cols) hc hc w3 r_3 (by omega)).mono ?_
 rintro e w4 ⟨A2,c2,x2,rfl,hos,hl2,r',o'⟩;have b0_4:=b0_3.only o' (by omega)
 have b1_4:=b1_3.only o' (by omega)
 have r_4:=r';have o_4:=o_3.trans o';have hos0_4:=hos0_3.only o' (by omega)
 have hos1_4:=hos1_3.only o' (by omega)
 have s_4:=o_4.size;have t_4:=o'.size;clear b0_3 b1_3 r_3 o_3 o' r' hos0_3 hos1_3;have hos2_4:=hos;have hlt2:∀ g,blk A2=some g->g<w4.heap.size:=fun g hg=>(hos2_4.aj g hg).2
 clear hos;have hbs2:w.heap.size+2<=w3.heap.size:=by omega
 have HMF:Hid (∃ F,dJ mxE w4 [[.int .i64 (cols),.int .i64 (cols),.slice A0 x0.length c0],[.int .i64 (cols),.int .i64 (cols),.slice A1 x1.length c1],[.int .i64 (cols),.int .i64 (cols),.slice A2 x2.length c2]] [(⟨cols,cols,x0⟩:Mx),(⟨cols,cols,x1⟩:Mx),(⟨cols,cols,x2⟩:Mx)] F/\Fr w4 (w.heap.size+2) F):=by
  have f0:=ek hos0_4;have f1:=ek hos1_4;have f2:=ek hos2_4;have hd0:∀ g,g∈fpI A0 x0.length->g∈fpI A1 x1.length\/g∈fpI A2 x2.length->False:=by
   intro g h1 h2;have a1:=hlt0 g (bz h1).2;rcases h2 with h2 | h2
   ·have a2:=(hos1_4.aj g (bz h2).2).1;omega
   ·have a2:=(hos2_4.aj g (bz h2).2).1;omega
  have hd1:∀ g,g∈fpI A1 x1.length->g∈fpI A2 x2.length->False:=by
   intro g h1 h2;have a1:=hlt1 g (bz h1).2;rcases h2 with h2
   ·have a2:=(hos2_4.aj g (bz h2).2).1;omega
  have hd2:∀ g,g∈fpI A2 x2.length->False->False:=by
   intro g h1 h2;exact h2
  exact ⟨_,⟨_,_,rfl,⟨A0,c0,rfl,MF.aB (m:=⟨cols,cols,x0⟩) hos0_4⟩,⟨_,_,rfl,⟨A1,c1,rfl,MF.aB (m:=⟨cols,cols,x1⟩) hos1_4⟩,⟨_,_,rfl,⟨A2,c2,rfl,MF.aB (m:=⟨cols,cols,x2⟩) hos2_4⟩,rfl⟩⟩⟩,Fr.app (f0.mono (by omega)) (Fr.app (f1.mono (by omega)) (Fr.app (f2.mono (by omega)) (Fr.nil _ _) (fun g h1 h2=>by cases h2)) (fun g h1 h2=>hd1 g h1 (by simpa using h2))) (fun g h1 h2=>hd0 g h1 (by simpa using h2))⟩
 have z0:w.heap.size<w4.heap.size:=b0_4.lt;have z1:w.heap.size+1<w4.heap.size:=b1_4.lt;have cb00:w4.cell? ⟨w.heap.size,0,none⟩=some (.int .i64 0):=b0_4.cell 0;have fb00:w4.frozen? ⟨w.heap.size,0,none⟩=false:=b0_4.frozen 0;have cb01:w4.cell? ⟨w.heap.size,1,none⟩=some (.slice none 0 0):=b0_4.cell 1;have fb01:w4.frozen? ⟨w.heap.size,1,none⟩=false:=b0_4.frozen 1;have cb10:w4.cell? ⟨w.heap.size+1,0,none⟩=some (.int .i64 3):=b1_4.cell 0;have fb10:w4.frozen? ⟨w.heap.size+1,0,none⟩=false:=b1_4.frozen 0;have cb11:w4.cell? ⟨w.heap.size+1,1,none⟩=some (.slice none 0 0):=b1_4.cell 1;have fb11:w4.frozen? ⟨w.heap.size+1,1,none⟩=false:=b1_4.frozen 1
 go_wp2_with fail
 refine (DH rb _).mono ?_;rintro e w' ⟨rfl,rfl⟩;obtain ⟨F,hE,hF⟩:=HMF.out;have hkk:∀ g,g∈F->(((w4.setCell ⟨w.heap.size+1,1,none⟩ (.slice (some ⟨w4.heap.size,0,none⟩) 3 3)).setCell ⟨w.heap.size,0,none⟩ (.int .i64 3)).setCell ⟨w.heap.size,1,none⟩ (.slice (some ⟨w4.heap.size,0,none⟩) 3 3)).heap[g]?=w4.heap[g]?:=fun g hg=>by
  have:=(hF.2 g hg).1
  exact (Below.heap_setCell _ _ _ g (by dsimp only;omega)).trans ((Below.heap_setCell _ _ _ g (by dsimp only;omega)).trans (Below.heap_setCell _ _ _ g (by dsimp only;omega)))
 have hzz:(((w4.setCell ⟨w.heap.size+1,1,none⟩ (.slice (some ⟨w4.heap.size,0,none⟩) 3 3)).setCell ⟨w.heap.size,0,none⟩ (.int .i64 3)).setCell ⟨w.heap.size,1,none⟩ (.slice (some ⟨w4.heap.size,0,none⟩) 3 3)).heap.size=w4.heap.size:=by simp [World.setCell]
 have hox:=OX.lit (((w4.setCell ⟨w.heap.size+1,1,none⟩ (.slice (some ⟨w4.heap.size,0,none⟩) 3 3)).setCell ⟨w.heap.size,0,none⟩ (.int .i64 3)).setCell ⟨w.heap.size,1,none⟩ (.slice (some ⟨w4.heap.size,0,none⟩) 3 3)) (base:=w.heap.size+2) (by rw [hzz];omega) 37 (hE.au hkk) (hF.au hkk) (by unfold maxLen;simp)
 rw [hzz] at hox;clear hkk hzz;obtain ⟨F2,hr2,hf2⟩:=hox.ri;simp only [List.flatten_cons,List.flatten_nil,List.cons_append,List.nil_append,List.length_cons,List.length_nil] at hr2 hf2;have HR2:=Lib.hid hr2;have HF2:=Lib.hid hf2;clear hE hF hox hr2 hf2 HMF;have HR:=Lib.hid r_4;have HO:=Lib.hid o_4;clear r_4 o_4 hos0_4 hlt0 hos1_4 hlt1 hos2_4 hlt2;go_wp2
 exact bodyPost_ret (v:= .agg #[.int .i64 3,.slice (some ⟨w4.heap.size,0,none⟩) 3 3]) (by simp [results,Tryz.results161,go_sem,z0,z1,cb00,fb00,cb01,fb01,cb10,fb10,cb11,fb11]) rfl ⟨_,3,3,[(⟨cols,cols,x0⟩:Mx),(⟨cols,cols,x1⟩:Mx),(⟨cols,cols,x2⟩:Mx)],F2,rfl,HR2.out,HF2.out.mono (by omega),by omega,by intro m hm;simp at hm;rcases hm with rfl | rfl | rfl <;> assumption,fun h=>absurd h (by decide),((((((HR.out.setCell (by dsimp only;omega) _).setCell (by dsimp only;omega) _).setCell (by dsimp only;omega) _).alloc _))).mono (by omega),(((((HO.out.setCell (.inr (by dsimp only;omega)) _).setCell (.inr (by dsimp only;omega)) _).setCell (.inr (by dsimp only;omega)) _).alloc _))⟩
end
theorem Er {kd:Int} (hk:1<=kd/\kd<=3) (rb P:Nat) (rows cols:Int) (hr:1<=rows/\rows<=5) (hc:1<=cols/\cols<=5) (w:World) (h:Rd w rb P) (hP:P<900000) :
  Calls Tryz.prog 161 #[.pointer (some ⟨rb,0,none⟩),.int .i64 kd,.int .i64 rows,.int .i64 cols,.int .i64 0] w (DLy w rb (P+700) kd):=by
 have:kd=1\/kd=2\/kd=3:=by omega
 rcases this with rfl | rfl | rfl
 ·exact Ef rb P rows cols hr hc w h hP
 ·exact Eg rb P rows cols hr hc w h hP
 ·exact Eh rb P rows cols hr hc w h hP
def DNt (w:World) (rb P:Nat) (e:Ending) (w':World):Prop:=∃ A n c ls F,e= .returned (.slice A n c)/\RI (kE mxE) w' A n c ls F/\Fr w' w.heap.size F/\n<=3/\(∀ l,l∈ls->l.2.length<=3/\∀ m,m∈l.2->m.v.length<=26)/\Rd w' rb P/\aZ rb w w'
theorem EL (rb P:Nat) (rows cols:Int) (hr:1<=rows/\rows<=5) (hc:1<=cols/\cols<=5) (w:World) (h:Rd w rb P) (hP:P<100000) :
  Calls Tryz.prog 120 #[.pointer (some ⟨rb,0,none⟩),.int .i64 rows,.int .i64 cols,.int .i64 0] w (DNt w rb (P+4000)):=by
 obtain ⟨i2,hi2,hy0,hy1,hy2⟩:=info_parts we;have hrw:=h.lt;have HX0:Hid (OX (kE mxE) (w.alloc (.cells #[] 80)) w.heap.size 80 (some ⟨w.heap.size,0,none⟩) 0 0 [] [] []):=OX.kG w (Nat.le_refl _) _;obtain ⟨hr1,hr2⟩:=hr;have HC:=Lib.hid hc;clear hc
 go_enter Tryz.func120,Tryz.ntmps120
 go_wp2_with fail
 refine (ct rb P 4 _ (h.alloc _) (by omega)).mono ?_
 rintro e w2 ⟨v,rfl,v0,v1,r2,o2⟩;have c1:v<=3:=by omega
 have HX2:=Lib.hid (HX0.out.only o2 hrw);have HO2:Hid (aZ rb w w2):=((aZ.refl rb w).alloc _).trans o2;have HR2:Hid (Rd w2 rb (P+1+800*0)):=r2;clear v1 h r2 o2 HX0;go_wp2
 go_loopw [1,9,10] (fun v1 v9 v10 wr=>∃ (j:Nat) (k rw:Int),0<=k/\(j:Int)+k<=3/\1<=rw/\rw<=5/\v10= .int .i64 k/\v1= .int .i64 rw/\∃ (A:Option Addr) (c:Nat) (css:List (List Value)) (ls:List (Int×List Mx)) (F:List Nat),v9= .slice A j c/\Hid (OX (kE mxE) wr w.heap.size 80 A j c css ls F)/\Hid (∀ l,l∈ls->l.2.length<=3/\∀ m,m∈l.2->m.v.length<=26)/\Hid (Rd wr rb (P+1+800*j))/\Hid (aZ rb w wr)) (fun _ _ k _=>(intOf k).toNat)
 case atStart=>exact ⟨0,v,rows,by omega,by omega,hr1,hr2,by go_num,rfl,_,_,_,_,_,rfl,HX2,(fun l hl=>by cases hl),HR2,HO2⟩
 case round =>
 obtain ⟨j,k,rw',k0,hjk,hw1,hw2,rfl,rfl,A,c,css,ls,FO,rfl,hox,hls,hrd,hon⟩:=hrel;have hwr:w.heap.size<=wr.heap.size:=hon.out.size
 by_cases hk:0<k
 ·clear HX2 HO2 HR2;have hrl:=hrd.out.lt
  go_wp2_with fail
  refine (ct rb (P+1+800*j) 4 _ (hrd.out.alloc _) (by omega)).mono ?_
  rintro e w2' ⟨q,rfl,q0,q1,r2,o2⟩;have q2:q<4:=by omega
  clear q1;obtain ⟨kd,hkd,d0,d1⟩:=rj [1,1,2,3] 1 3 (by simp) q q0 (by simp;omega)
  have hcx:w2'.cell? ⟨wr.heap.size,q.toNat,none⟩=some (.int .i64 kd):=by
   rw [o2.cell (by simp) (by omega)]
   have:=kr wr [1,1,2,3] 3 q.toNat;rw [hkd] at this
   exact this
  have HX3:=Lib.hid ((hox.out.alloc (.cells #[.int .i64 1,.int .i64 1,.int .i64 2,.int .i64 3] 3)).only o2 hrw);have HO3:Hid (aZ rb w w2'):=(hon.out.alloc _).trans o2;have HR3:=Lib.hid r2;have hz2:wr.heap.size<w2'.heap.size:=by have:=o2.size;simp at this;omega
  clear r2 o2 hkd hrd hon hox
  go_wp2_with fail
  refine (Er ⟨d0,d1⟩ rb (P+1+800*j+1) rw' cols ⟨hw1,hw2⟩ HC.out w2' HR3.out (by omega)).mono ?_
  rintro e w3 ⟨A',n',c',ms,F',rfl,hri,hfr,hn',hms,hone,r3,o3⟩;have HOX:=Lib.hid (HX3.out.only o3 hrw);have HO:Hid (aZ rb w w3):=HO3.out.trans o3;have HRD:=Lib.hid r3;have HR:=Lib.hid hri;have HF:=Lib.hid hfr;have HMS:=Lib.hid hms;have HML:=Lib.hid hri.1;have hz3:w2'.heap.size<=w3.heap.size:=o3.size;have HDD:Hid (∀ g,g∈F'->g∉FO/\blk A≠some g):=fun g hg=>⟨fun h=>by have:=HX3.out.lt g h;have:=(hfr.2 g hg).1;omega,fun h=>by have:=(HX3.out.aj g h).2;have:=(hfr.2 g hg).1;omega⟩
  clear hri hfr hms r3 o3 HX3 HO3 HR3 hcx
  by_cases hk1:kd=1
  ·subst hk1;obtain ⟨m0,hm0,hm1,hm2⟩:=hone rfl;obtain ⟨b,off,cs,F0,rfl,hbl,hc0,_,A0,p0,rfl,_⟩:=HR.out.cells hm0 3 rfl;have e0:w3.cell? ⟨b,off,none⟩=some (.int .i64 m0.r):=by have:=hc0 0 (by omega);simpa using this
   have hn0:0<n':=by have:=(List.getElem?_eq_some_iff.1 hm0).1;have:=HML.out;omega
   have hn0':(0:Int)<(n':Int):=by omega
   clear hc0 hm0 hone;have HQ:Hid ((kE mxE).P w3 [.int .i64 1,.slice (some ⟨b,off,none⟩) n' c'] ((1:Int),ms) F'):=⟨some ⟨b,off,none⟩,c',by dsimp only;rw [HML.out],by dsimp only;rw [HML.out];exact HR.out⟩
   have HD:Hid (∀ g,g∈F'->g∉FO/\blk A≠some g):=HDD;clear HDD
   go_wp2_with (at_builtin;refine wpList_append_lies _ rfl _ _ 32 rfl w.heap.size 80 i2 (.agg #[.int .i64 0,.slice none 0 0]) 2 32 Tryz.underlying32 hi2 hy0 hy1 hy2 rfl (by decide) (.slice A j c) j _ rfl (World.ownsRow.alloc (World.ownsRow.alloc HOX.out.1 _) _) ⟨w3.heap.size+1,0,none⟩ 1 1 [.int .i64 1,.slice (some ⟨b,off,none⟩) n' c'] rfl rfl ?c1 ?c2 ?c3 ?c4 ?c5 ?c6 (w3.heap.size+1+1) ?c7 ?_)
   case c1 =>
    have h:=dz (w3.alloc (.cells #[.int .i64 1,.slice (some ⟨b,off,none⟩) n' c'] 80)) 80 [.int .i64 1,.slice (some ⟨b,off,none⟩) n' c'];rw [World.size_alloc] at h
    exact h
   case c2=>intro u hu;simp at hu;rcases hu with rfl | rfl <;> rfl
   case c3=>omega
   case c4=>unfold maxLen;omega
   case c5=>omega
   case c6=>simp;omega
   case c7=>simp
   intro g cap5 w5 hown hgrow hat hlt5;have hal:Below w3.heap.size w3 (w3.alloc (.cells #[.int .i64 1,.slice (some ⟨b,off,none⟩) n' c'] 80)):=(Below.refl _ _).alloc (Nat.le_refl _) _;obtain ⟨k1,_,k3⟩:=OX.push (HOX.out.below hal) ((kE mxE).au _ _ _ _ _ HQ.out (fun g hg=>hal.block g ((kE mxE).lt _ _ _ _ HQ.out g hg))) (((HF.out.mono (by omega)).below hal)) HD.out (Below.refl w.heap.size _) (Nat.le_refl _) (by simp;omega) hown hgrow (hat.imp id (fun h=>by rw [World.size_alloc];exact h))
   have K1:=Lib.hid k1;have K2:Hid (aZ rb w w5):=⟨k3.os.trans (HO.out.alloc _).os,k3.tape.trans (HO.out.alloc _).tape,k3.output.trans (HO.out.alloc _).output,Nat.le_trans (HO.out.alloc _).size k3.size,fun i hi hne=>(k3.block i (by simp;omega) (fun e=>by have:=(HOX.out.aj i e.symm).1;omega)).trans ((HO.out.alloc (.cells #[.int .i64 1,.slice (some ⟨b,off,none⟩) n' c'] 80)).block i hi hne)⟩
   have K3:Hid (Rd w5 rb (P+1+800*(j+1))):=((HRD.out.alloc (.cells #[.int .i64 1,.slice (some ⟨b,off,none⟩) n' c'] 80)).au (fun i hi=>k3.block i (by simp;omega) (fun e=>by have:=(HOX.out.aj i e.symm).1;omega))).mono (by omega)
   have K4:Hid (∀ l,l∈ls++[((1:Int),ms)]->l.2.length<=3/\∀ m,m∈l.2->m.v.length<=26):=by
    intro l hl;rcases List.mem_append.1 hl with hl | hl
    ·exact hls.out l hl
    ·have e:l=((1:Int),ms):=by simpa using hl
     subst e
     exact ⟨by dsimp only;rw [HML.out];exact hn',HMS.out⟩
   clear k1 k3 hal hown hgrow hat HOX HQ HD HR HF HRD HO;go_wp2
   go_roundw
   case rel=>exact ⟨j+1,k-1,m0.r,by omega,by omega,by omega,by omega,by go_num,rfl,_,_,_,_,_,rfl,K1,K4,K3,K2⟩
   case measure=>simp [intOf] <;> omega
  ·have t1:(kd == 1)=false:=by simp [hk1]
   clear hone;have HQ:Hid ((kE mxE).P w3 [.int .i64 kd,.slice A' n' c'] (kd,ms) F'):=⟨A',c',by dsimp only;rw [HML.out],by dsimp only;rw [HML.out];exact HR.out⟩
   have HD:Hid (∀ g,g∈F'->g∉FO/\blk A≠some g):=HDD;clear HDD
   go_wp2_with (at_builtin;refine wpList_append_lies _ rfl _ _ 32 rfl w.heap.size 80 i2 (.agg #[.int .i64 0,.slice none 0 0]) 2 32 Tryz.underlying32 hi2 hy0 hy1 hy2 rfl (by decide) (.slice A j c) j _ rfl (World.ownsRow.alloc (World.ownsRow.alloc HOX.out.1 _) _) ⟨w3.heap.size+1,0,none⟩ 1 1 [.int .i64 kd,.slice A' n' c'] rfl rfl ?c1 ?c2 ?c3 ?c4 ?c5 ?c6 (w3.heap.size+1+1) ?c7 ?_)
   case c1 =>
    have h:=dz (w3.alloc (.cells #[.int .i64 kd,.slice A' n' c'] 80)) 80 [.int .i64 kd,.slice A' n' c'];rw [World.size_alloc] at h
    exact h
   case c2=>intro u hu;simp at hu;rcases hu with rfl | rfl <;> rfl
   case c3=>omega
   case c4=>unfold maxLen;omega
   case c5=>omega
   case c6=>simp;omega
   case c7=>simp
   intro g cap5 w5 hown hgrow hat hlt5;have hal:Below w3.heap.size w3 (w3.alloc (.cells #[.int .i64 kd,.slice A' n' c'] 80)):=(Below.refl _ _).alloc (Nat.le_refl _) _;obtain ⟨k1,_,k3⟩:=OX.push (HOX.out.below hal) ((kE mxE).au _ _ _ _ _ HQ.out (fun g hg=>hal.block g ((kE mxE).lt _ _ _ _ HQ.out g hg))) (((HF.out.mono (by omega)).below hal)) HD.out (Below.refl w.heap.size _) (Nat.le_refl _) (by simp;omega) hown hgrow (hat.imp id (fun h=>by rw [World.size_alloc];exact h))
   have K1:=Lib.hid k1;have K2:Hid (aZ rb w w5):=⟨k3.os.trans (HO.out.alloc _).os,k3.tape.trans (HO.out.alloc _).tape,k3.output.trans (HO.out.alloc _).output,Nat.le_trans (HO.out.alloc _).size k3.size,fun i hi hne=>(k3.block i (by simp;omega) (fun e=>by have:=(HOX.out.aj i e.symm).1;omega)).trans ((HO.out.alloc (.cells #[.int .i64 kd,.slice A' n' c'] 80)).block i hi hne)⟩
   have K3:Hid (Rd w5 rb (P+1+800*(j+1))):=((HRD.out.alloc (.cells #[.int .i64 kd,.slice A' n' c'] 80)).au (fun i hi=>k3.block i (by simp;omega) (fun e=>by have:=(HOX.out.aj i e.symm).1;omega))).mono (by omega)
   have K4:Hid (∀ l,l∈ls++[(kd,ms)]->l.2.length<=3/\∀ m,m∈l.2->m.v.length<=26):=by
    intro l hl;rcases List.mem_append.1 hl with hl | hl
    ·exact hls.out l hl
    ·have e:l=(kd,ms):=by simpa using hl
     subst e
     exact ⟨by dsimp only;rw [HML.out];exact hn',HMS.out⟩
   clear k1 k3 hal hown hgrow hat HOX HQ HD HR HF HRD HO;go_wp2
   go_roundw
   case rel=>exact ⟨j+1,k-1,rw',by omega,by omega,by omega,by omega,by go_num,rfl,_,_,_,_,_,rfl,K1,K4,K3,K2⟩
   case measure=>simp [intOf] <;> omega
 ·obtain rfl:k=0:=by omega
  have HN:Hid (DNt w rb (P+4000) (.returned (.slice A j c)) wr):=by
   obtain ⟨F2,h1,h2⟩:=hox.out.ri
   exact ⟨A,j,c,ls,F2,rfl,h1,h2,by omega,hls.out,hrd.out.mono (by omega),hon.out⟩
  clear HX2 HO2 HR2
  go_wp2_with fail
  refine (DH rb wr).mono ?_;rintro e w' ⟨rfl,rfl⟩;go_wp2
  exact bodyPost_ret (v:= .slice A j c) (by simp [results,Tryz.results120,go_sem]) rfl HN.out
end Go.Proofs.YtjciicheoghcdaaGreatDoor
