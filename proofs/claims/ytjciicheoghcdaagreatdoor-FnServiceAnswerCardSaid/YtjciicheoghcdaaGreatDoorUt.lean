/- Part of the proof of FnServiceAnswer. -/
import Derived.Test.YtjciicheoghcdaaGreatDoorUs
namespace Go.Proofs.YtjciicheoghcdaaGreatDoor
open Go.RowKit Go.Proofs.Tryz
set_option linter.all false
set_option maxRecDepth 20000
set_option maxHeartbeats 16000000
section
attribute [local go_sem ↓] Go.wp_at_zero Go.wp_at_succ
def Dm0 (w:World) (rb P:Nat) (r c:Int) (e:Ending) (w':World):Prop:=∃ (A:Option Addr) (cp:Nat) (v:List Int),e= .returned (.agg #[.int .i64 r,.int .i64 c,.slice A v.length cp])/\OS w' w.heap.size A v.length cp v/\v.length<=26/\Rd w' rb P/\aZ rb w w'
theorem Mi.Fu {rb P P':Nat} {r c:Int} {w W:World} {j cp:Nat} {A:Option Addr} {xs:List Int} {a b d:Value} (h:Mi rb r c w P W j A cp xs) (hr:rb<w.heap.size) (hj:j<=26) (hP:P<=P') :
  Dm0 w rb P' r c (.returned (.agg #[.int .i64 r,.int .i64 c,.slice A j cp])) (((W.setCell ⟨w.heap.size,0,none⟩ a).setCell ⟨w.heap.size,1,none⟩ b).setCell ⟨w.heap.size,2,none⟩ d):=by
 obtain⟨h1,h2,h3,h4,h5⟩:=h;have hl:=h3.len;subst hl
 exact⟨A,cp,xs,rfl,((h3.dk h1 (by decide) _).dk (h1.dc 0 _) (by decide) _).dk ((h1.dc 0 _).dc 1 _) (by decide) _,hj,(((h5.setCell (by dsimp only;omega) _).setCell (by dsimp only;omega) _).setCell (by dsimp only;omega) _).mono (by omega),
  ((h4.setCell (.inr Ql) _).setCell (.inr Ql) _).setCell (.inr Ql) _⟩
theorem FF (rb P:Nat) (r c:Int) (hr:1<=r/\r<=5) (hc:1<=c/\c<=5) (w:World) (h:Rd w rb P) (hP:P<1000000):Calls prog 121 #[.pointer (some ⟨rb,0,none⟩),.int .i64 r,.int .i64 c,.int .i64 0] w (Dm0 w rb (P+220) r c):=by
 obtain⟨i0',hi,hz0,hz1,hz2⟩:=info_parts eU;have hrw:=h.lt;have N0:r*c<=5*5:=Int.mul_le_mul hr.2 hc.2 (by omega) (by omega)
 have N1:0<r*c:=Int.mul_pos (by omega) (by omega)
 obtain⟨N,hN⟩:∃ N:Nat,r*c=(N:Int):=⟨(r*c).toNat,by omega⟩
 have hN1:1<=N:=by omega
 have hN2:N<=25:=by omega
 have hNl:N+1<=26:=by omega
 clear N0 N1;have hwN:IntKind.i64.wrap (r*c)=(N:Int):=by rw[hN];exact IntWalk.i64_in _ (by omega)
 have hNn:(0:Int)<(N:Int):=by omega
 have hM0:=Qh (Mi.start (r:=r) (c:=c) h);have HN:=Qh hN;obtain⟨c1,c2⟩:=hc;clear h hr hN
 go_enter func121,ntmps121
 go_wp2
 go_loopw [10] (fun v10 wr=>∃ (j:Nat) (A:Option Addr) (cp:Nat) (xs:List Int),j<=N/\v10= .int .i64 (j:Int)/\Hid (Mi rb r c w (P+8*j) wr j A cp xs)) (fun k _=>((N:Int)-intOf k).toNat)
 case atStart=>exact⟨0,none,0,[],by omega,by go_num,hM0⟩
 case round =>
  obtain⟨j,A,cp,xs,hj,rfl,hm⟩:=hrel;clear hM0
  by_cases hk:j<N
  ·have hk':(j:Int)<(N:Int):=by omega
   have MD:=Qh hm.out.drew;have hP2:P+8*j<1000200:=by omega
   have C1:Hid (∀ W:World,Rd W rb (P+8*j)->Calls prog 71 #[.pointer (some ⟨rb,0,none⟩),.int .i64 64] W (Pk W rb (P+8*j+1) 64)):=fun W h=>FE rb _ 64 W h (by omega)
   have C2:Hid (∀ (x:Int) (W:World),Calls prog 132 #[.int .i64 x] W fun e w'=>∃ y:Int,e= .returned (.int .i64 y)/\W=w'):=fun x W=>(bG x W).mono fun e w' h=>⟨_,h.1,h.2⟩
   have C3:Hid (∀ W:World,Rd W rb (P+8*j+1)->Calls prog 162 #[.pointer (some ⟨rb,0,none⟩),.int .i64 0] W (Rg0 W rb (P+8*j+1+6))):=fun W h=>DV rb _ W h (by omega)
   have C4:Hid (∀ W:World,Rd W rb (P+8*j+1+6)->Calls prog 71 #[.pointer (some ⟨rb,0,none⟩),.int .i64 4] W (Pk W rb (P+8*j+1+6+1) 4)):=fun W h=>FE rb _ 4 W h (by omega)
   have H2:Hid (j+1<=maxLen):=by unfold maxLen;show j+1<=_;omega
   have H3:Hid ((j+1)*8<=140737488355328):=by show (j+1)*8<=_;omega
   have cM:wr.cell? ⟨w.heap.size+1,2,none⟩=some (.slice A j cp):=hm.out.kx;have zM:=hm.out.lt
   go_upto_region 5 with fail
   go_region_law (first
    | (refine step_append_lies _ (by rfl) _ _ _ (by rfl) w.heap.size 3 i0' (.int .i64 0) 1 8 underlying35 hi hz0 hz1 hz2 rfl (by omega) (.slice A j cp) j _ (by rfl) (World.ownsRow.alloc MC.out.os _) ⟨wc.heap.size,0,none⟩ 1 1 [.int .i64 v] (by rfl) rfl (fun jj u h=>HN1.out jj u h) H1.out (by omega) H2.out H3.out H4.out (wc.heap.size+1) H5.out ?_;intro g cap w1 hown hgrow hat hlt1;have HA:=Qh (Mi.app MC.out hrw hown hgrow hat);clear hown hgrow hat;have kT:=HA.out.2.1.cell 2;have fT:=HA.out.2.1.frozen 2;have zT:=HA.out.2.1.lt)
    | (refine step_append_lies _ (by rfl) _ _ _ (by rfl) w.heap.size 3 i0' (.int .i64 0) 1 8 underlying35 hi hz0 hz1 hz2 rfl (by omega) (.slice A j cp) j _ (by rfl) (World.ownsRow.alloc (MC.out.alloc (.cells #[.int .i64 xx,.int .i64 yy] 3)).os _) ⟨wc.heap.size+1,0,none⟩ 1 1 [.int .i64 v] (by rfl) rfl (fun jj u h=>HN1.out jj u h) H1.out (by omega) H2.out H3.out H4.out (wc.heap.size+1+1) H5.out ?_;intro g cap w1 hown hgrow hat hlt1;have HA:=Qh (Mi.app (MC.out.alloc (.cells #[.int .i64 xx,.int .i64 yy] 3)) hrw hown hgrow (hat.imp id fun e=>e.trans (by rw[World.size_alloc])));clear hown hgrow hat;have kT:=HA.out.2.1.cell 2;have fT:=HA.out.2.1.frozen 2;have zT:=HA.out.2.1.lt)
    | (go_simp;go_at_call 71;(with_reducible refine(C1.out _ MD.out.rd).mono ?_);rintro e wa ⟨a,rfl,a0,a1,r',o'⟩;have a2:a<=63:=(by omega);have MA:=Qh (MD.out.only hrw o' r');have cA:=MA.out.kx;have fA:=MA.out.DC;have zA:=MA.out.lt;clear a1 r' o')
    | (go_simp;go_at_call 132;refine(C2.out _ _).mono ?_;rintro e w' ⟨xx,rfl,rfl⟩)
    | (go_simp;go_at_call 162;(with_reducible refine(C3.out _ MA.out.rd).mono ?_);rintro e wb ⟨yy,rfl,y0,y1,r',o'⟩;have MB:=Qh (MA.out.only hrw o' r');have cB:=MB.out.kx;have fB:=MB.out.DC;have zB:=MB.out.lt;clear y0 y1 r' o')
    | (go_simp;go_at_call 71;(with_reducible refine(C4.out _ (MB.out.alloc _).rd).mono ?_);rintro e wc ⟨q,rfl,q0,q1,r',o'⟩;have q2:q<6:=(by omega);clear q1;obtain⟨d,hd,d0,d1⟩:=DQ (q:=q) (n:=3) (by omega) q0 q2;have hwd:=IntWalk.i64_in d (by omega);obtain⟨v,hv,hvv⟩:=D_ xx yy d d0 d1;have MC:=Qh ((MB.out.alloc (.cells #[.int .i64 xx,.int .i64 yy] 3)).only hrw o' r');have cC:=MC.out.kx;have fC:=MC.out.DC;have zC:=MC.out.lt;have zb:wb.heap.size<wc.heap.size:=(by have:=o'.size;simp at this;omega);have cX:wc.cell? ⟨wb.heap.size,d.toNat,none⟩=some (.int .i64 v):=(o'.cell (by simp) (by omega)).trans (FK wb hv);have HN1:=Qh (cell_one_new wc (.int .i64 v) 3);have H1:Hid (∀ u∈[Value.int .i64 v],u.oneCell'=true):=(by intro u hu;simp at hu;subst hu;rfl);have H4:Hid (w.heap.size<=(wc.alloc (.cells #[.int .i64 v] 3)).heap.size):=(by show w.heap.size<=_;simp;omega);have H5:Hid ((wc.alloc (.cells #[.int .i64 v] 3)).heap.size=wc.heap.size+1):=(by show _=_;simp);have cL:(wc.alloc (.cells #[.int .i64 v] 3)).cell? ⟨w.heap.size+1,2,none⟩=some (.slice A j cp):=(MC.out.alloc (.cells #[.int .i64 v] 3)).kx;clear hvv r' o' hv)
    | (go_simp;go_at_call 71;(with_reducible refine(C4.out _ MB.out.rd).mono ?_);rintro e wc ⟨q,rfl,q0,q1,r',o'⟩;have q2:q<6:=(by omega);clear q1;obtain⟨d,hd,d0,d1⟩:=DQ (q:=q) (n:=3) (by omega) q0 q2;have hwd:=IntWalk.i64_in d (by omega);obtain⟨v,hv,hvv⟩:=D_ xx yy d d0 d1;have MC:=Qh (MB.out.only hrw o' r');have cC:=MC.out.kx;have fC:=MC.out.DC;have zC:=MC.out.lt;have cX:(wc.alloc (.cells #[.int .i64 xx,.int .i64 yy] 3)).cell? ⟨wc.heap.size,d.toNat,none⟩=some (.int .i64 v):=FK wc hv;have hv2:=hv;obtain⟨_,hve⟩:=List.getElem?_eq_some_iff.1 hv2;have HN1:Hid (∀ jj u,[Value.int .i64 v][jj]?=some u->((wc.alloc (.cells #[.int .i64 xx,.int .i64 yy] 3)).alloc (.cells #[.int .i64 v] 3)).cell? ((⟨wc.heap.size+1,0,none⟩:Addr).add jj)=some u):=(by have h:=cell_one_new (wc.alloc (.cells #[.int .i64 xx,.int .i64 yy] 3)) (.int .i64 v) 3;rw[World.size_alloc] at h;exact h);have H1:Hid (∀ u∈[Value.int .i64 v],u.oneCell'=true):=(by intro u hu;simp at hu;subst hu;rfl);have H4:Hid (w.heap.size<=((wc.alloc (.cells #[.int .i64 xx,.int .i64 yy] 3)).alloc (.cells #[.int .i64 v] 3)).heap.size):=(by show w.heap.size<=_;simp;omega);have H5:Hid (((wc.alloc (.cells #[.int .i64 xx,.int .i64 yy] 3)).alloc (.cells #[.int .i64 v] 3)).heap.size=(wc.heap.size+1)+1):=(by show _=_;simp);have cL0:(wc.alloc (.cells #[.int .i64 xx,.int .i64 yy] 3)).cell? ⟨w.heap.size+1,2,none⟩=some (.slice A j cp):=(MC.out.alloc (.cells #[.int .i64 xx,.int .i64 yy] 3)).kx;have cL:((wc.alloc (.cells #[.int .i64 xx,.int .i64 yy] 3)).alloc (.cells #[.int .i64 v] 3)).cell? ⟨w.heap.size+1,2,none⟩=some (.slice A j cp):=((MC.out.alloc (.cells #[.int .i64 xx,.int .i64 yy] 3)).alloc (.cells #[.int .i64 v] 3)).kx;clear hvv r' o'))
   all_goals
    go_wp2
    go_roundw
    case rel=>exact⟨j+1,some ⟨g,0,none⟩,cap,xs++[v],by omega,by go_num,Qh ((Ma.next HA.out hrw).mono (by omega))⟩
    case measure=>simp[intOf];omega
  ·obtain rfl:j=N:=by omega
   go_wp2_with fail
   refine Qc (DH rb wr) ?_;have za1:w.heap.size<wr.heap.size:=by have:=hm.out.lt;omega
   have za2:w.heap.size+1<wr.heap.size:=hm.out.lt;have ca00:wr.cell? ⟨w.heap.size,0,none⟩=some (.int .i64 0):=hm.out.1.cell 0;have fa00:wr.frozen? ⟨w.heap.size,0,none⟩=false:=hm.out.1.frozen 0;have ca01:wr.cell? ⟨w.heap.size,1,none⟩=some (.int .i64 0):=hm.out.1.cell 1;have fa01:wr.frozen? ⟨w.heap.size,1,none⟩=false:=hm.out.1.frozen 1;have ca02:wr.cell? ⟨w.heap.size,2,none⟩=some (.slice none 0 0):=hm.out.1.cell 2;have fa02:wr.frozen? ⟨w.heap.size,2,none⟩=false:=hm.out.1.frozen 2;have ca10:wr.cell? ⟨w.heap.size+1,0,none⟩=some (.int .i64 r):=hm.out.2.1.cell 0;have fa10:wr.frozen? ⟨w.heap.size+1,0,none⟩=false:=hm.out.2.1.frozen 0;have ca11:wr.cell? ⟨w.heap.size+1,1,none⟩=some (.int .i64 c):=hm.out.2.1.cell 1;have fa11:wr.frozen? ⟨w.heap.size+1,1,none⟩=false:=hm.out.2.1.frozen 1;have ca12:wr.cell? ⟨w.heap.size+1,2,none⟩=some (.slice A j cp):=hm.out.2.1.cell 2;have fa12:wr.frozen? ⟨w.heap.size+1,2,none⟩=false:=hm.out.2.1.frozen 2;go_wp2
   exact bodyPost_ret (v:= .agg #[.int .i64 r,.int .i64 c,.slice A j cp]) (by simp[results,results121,go_sem,za1,za2,ca00,fa00,ca01,fa01,ca02,fa02,ca10,fa10,ca11,fa11,ca12,fa12,(by omega:¬w.heap.size=w.heap.size+1),(by omega:¬w.heap.size+1=w.heap.size)]) rfl (Mi.Fu hm.out hrw (by omega) (by omega))
end
section
section
variable {α:Type} {E:Elt α} {w w':World} {base rb n cap:Nat} {A:Option Addr} {T:TypeId} {css:List (List Value)} {xs:List α} {F:List Nat}
theorem RI.only (h:RI E w A n cap xs F) (ho:aZ rb w w') (hf:rb∉F):RI E w' A n cap xs F:=h.au fun g hg=>ho.block g (h.lt g hg) (fun e=>hf (by injection e with e;rw[<-e];exact hg))
theorem Fr.only (h:Fr w base F) (ho:aZ rb w w') (hr:rb<base):Fr w' base F:=h.au fun g hg=>ho.block g (h.lt g hg) (fun e=>by have:=(h.2 g hg).1;injection e;omega)
theorem Fr.not (h:Fr w base F) (hr:rb<base):rb∉F:=fun hg=>by have:=(h.2 rb hg).1;omega
theorem OX.only (h:OX E w base T A n cap css xs F) (ho:aZ rb w w') (hr:rb<base):OX E w' base T A n cap css xs F:=h.au ho.size fun g hl hg=>ho.block g hl (fun e=>by
 injection e with e;rcases hg with hg|hg
 ·have:=(h.aj g hg).1;omega
 ·have:=(h.2.2.2.1.2 g hg).1;omega)
theorem OX.lit (W:World) (hb:base<=W.heap.size) (T:TypeId) (h:dJ E W css xs F) (hf:Fr W base F) (hn:xs.length<=maxLen):OX E (W.alloc (.cells css.flatten.toArray T)) base T (some ⟨W.heap.size,0,none⟩) xs.length xs.length css xs F:=by
 refine⟨?_,rfl,h.au fun g hg=>Below.heap_alloc W _ g (h.lt g hg),hf.au fun g hg=>Below.heap_alloc W _ g (h.lt g hg),fun g hg hF=>?_⟩
 ·have hl:css.flatten.length=xs.length*E.s:=dS h;have:=World.ownsRow_lit (base:=base) (e:=T) (size:=E.s) W css.flatten.toArray xs.length hb hn (by simpa using hl)
  rw[show css.flatten.toArray.toList=css.flatten by simp] at this
  exact this
 ·have e:W.heap.size=g:=by simpa [blk] using hg
  have:=h.lt g hF
  omega
end
def Sdn (w:World) (rb P:Nat) (e:Ending) (w':World):Prop:=∃ v:Int,e= .returned (.int .i64 v)/\Rd w' rb P/\aZ rb w w'
theorem Ea (rb P:Nat) (n:Int) (hn:0<=n/\n<=1000000) (w:World) (h:Rd w rb P) (hP:P<549755813888):Calls prog 74 #[.pointer (some ⟨rb,0,none⟩),.int .i64 n] w (Sdn w rb (P+3)):=by
 have hrw:=h.lt
 go_enter func74,ntmps74
 go_wp2_with fail
 refine(EG rb P n hn w h (by omega)).mono ?_
 rintro e w1 ⟨v,rfl,r1,o1⟩;have t1:=r1.lt;clear h
 cases v
 ·go_wp2_with fail
  refine(FE rb (P+1) 256 w1 r1 (by omega)).mono ?_
  rintro e w2 ⟨v2,rfl,a2,b2,r2,o2⟩;have c2:v2<=255:=by omega
  have t2:=r2.lt;clear b2
  go_wp2_with fail
  refine(FE rb (P+1+1) 6 _ ((r2.alloc _).alloc _) (by omega)).mono ?_
  rintro e w3 ⟨v3,rfl,a3,b3,r3,o3⟩;have c3:v3<6:=by omega
  clear b3;obtain⟨x,hx,x0,x1⟩:=FG [0,0,0,0,1,2] 0 2 (by simp) v3 a3 (by simp;omega)
  obtain⟨y,hy,y0,y1⟩:=FG [1+v2*8000000,1,2147483646] 0 2147483646 (by simp;omega) x x0 (by simp;omega)
  have hcx:w3.cell? ⟨w2.heap.size+1,v3.toNat,none⟩=some (.int .i64 x):=by
   rw[o3.cell (by simp) (by omega)]
   have:=kr (w2.alloc (.cells #[.int .i64 (1+v2*8000000),.int .i64 1,.int .i64 2147483646] 3)) [0,0,0,0,1,2] 3 v3.toNat;rw[hx,World.size_alloc] at this
   exact this
  have hcy:w3.cell? ⟨w2.heap.size,x.toNat,none⟩=some (.int .i64 y):=by
   rw[o3.cell (by simp;omega) (by omega),World.cell?_alloc_lt _ _ _ (by simp)]
   have:=kr w2 [1+v2*8000000,1,2147483646] 3 x.toNat;rw[hy] at this
   exact this
  have O3:=Qh ((o1.trans o2).trans ((((aZ.refl rb w2).alloc _).alloc _).trans o3));clear o1 o2 o3 hx hy r1 r2;have xx:x<3:=by omega
  go_wp2
  go_ret
  exact⟨y,rfl,r3.mono (by omega),O3.out⟩
 ·go_wp2_with fail
  refine(FE rb (P+1) 3 _ (r1.alloc _) (by omega)).mono ?_
  rintro e w2 ⟨v2,rfl,a2,b2,r2,o2⟩;have c2:v2<3:=by omega
  clear b2;obtain⟨y,hy,y0,y1⟩:=FG [0,-1,2147483647] (-1) 2147483647 (by simp) v2 a2 (by simp;omega)
  have hcy:w2.cell? ⟨w1.heap.size,v2.toNat,none⟩=some (.int .i64 y):=by
   rw[o2.cell (by simp) (by omega)]
   have:=kr w1 [0,-1,2147483647] 3 v2.toNat;rw[hy] at this
   exact this
  have O3:=Qh (o1.trans (((aZ.refl rb w1).alloc _).trans o2));clear o1 o2 hy r1;go_wp2
  go_ret
  exact⟨y,rfl,r2.mono (by omega),O3.out⟩
def DLy (w:World) (rb P:Nat) (kd:Int) (e:Ending) (w':World):Prop:=∃ A n c ms F,e= .returned (.agg #[.int .i64 kd,.slice A n c])/\RI mxE w' A n c ms F/\Fr w' w.heap.size F/\n<=3/\(∀ m,m∈ms->m.v.length<=26)/\(kd=1->∃ m0,ms[0]?=some m0/\1<=m0.r/\m0.r<=5)/\Rd w' rb P/\aZ rb w w'
section
variable {w w1 w2 w3 w4:World} {rb:Nat}
theorem MF.only {A:Option Addr} {c:Nat} {m:Mx} {F:List Nat} {base:Nat} (h:MF w A c m F) (hf:∀ g,g∈F->base<=g) (ho:aZ rb w w1) (hr:rb<base):MF w1 A c m F:=h.au fun g hg=>ho.block g (h.lt g hg) (fun e=>by injection e with e;have:=hf g hg;omega)
end
theorem Ef (rb P:Nat) (rows cols:Int) (hr:1<=rows/\rows<=5) (hc:1<=cols/\cols<=5) (w:World) (h:Rd w rb P) (hP:P<900000) :
  Calls prog 161 #[.pointer (some ⟨rb,0,none⟩),.int .i64 1,.int .i64 rows,.int .i64 cols,.int .i64 0] w (DLy w rb (P+700) 1):=by
 obtain⟨u1,hu1⟩:∃ u,u=((w.alloc (.cells #[.int .i64 0,.slice none 0 0] 80)).alloc (.cells #[.int .i64 1,.slice none 0 0] 80)):=⟨_,rfl⟩;have b0_1:Blk u1 w.heap.size 80 #[.int .i64 0,.slice none 0 0]:=by rw[hu1];exact(Blk.new _ _ _).alloc _
 have b1_1:Blk u1 (w.heap.size+1) 80 #[.int .i64 1,.slice none 0 0]:=by rw[hu1];have h:=Blk.new (w.alloc (.cells #[.int .i64 0,.slice none 0 0] 80)) 80 #[.int .i64 1,.slice none 0 0];simpa using h
 have r_1:Rd u1 rb P:=by rw[hu1];exact(h.alloc _).alloc _
 have o_1:aZ rb w u1:=by rw[hu1];exact((aZ.refl rb w).alloc _).alloc _
 have hrw:=h.lt;clear h
 go_enter func161,ntmps161
 go_wp2_with fail
 rw[<-hu1];have s_1:w.heap.size+2<=u1.heap.size:=by rw[hu1];simp
 clear hu1;refine(FE rb P 3 u1 r_1 (by omega)).mono ?_
 rintro e w2 ⟨v,rfl,v0,v1,r',o'⟩;have v2:v<=2:=by omega
 clear v1;have b0_2:=b0_1.only o' (by omega)
 have b1_2:=b1_1.only o' (by omega)
 have r_2:=r';have o_2:=o_1.trans o';have s_2:=o_2.size;have t_2:=o'.size;clear b0_1 b1_1 r_1 o_1 o' r';have hv5:=IntWalk.i64_in (1+v) (by omega)
 go_wp2_with fail
 refine(FF rb (P+1) (1+v) (rows) (by omega) hr w2 r_2 (by omega)).mono ?_
 rintro e w3 ⟨A0,c0,x0,rfl,hos,hl0,r',o'⟩;have b0_3:=b0_2.only o' (by omega)
 have b1_3:=b1_2.only o' (by omega)
 have r_3:=r';have o_3:=o_2.trans o';have s_3:=o_3.size;have t_3:=o'.size;clear b0_2 b1_2 r_2 o_2 o' r';have hos0_3:=hos;have hlt0:∀ g,blk A0=some g->g<w3.heap.size:=fun g hg=>(hos0_3.aj g hg).2
 clear hos;have hbs0:w.heap.size+2<=w2.heap.size:=by omega
 go_wp2_with fail
 refine(FF rb (P+1+220) (1+v) (1) (by omega) (by omega) w3 r_3 (by omega)).mono ?_
 rintro e w4 ⟨A1,c1,x1,rfl,hos,hl1,r',o'⟩;have b0_4:=b0_3.only o' (by omega)
 have b1_4:=b1_3.only o' (by omega)
 have r_4:=r';have o_4:=o_3.trans o';have hos0_4:=hos0_3.only o' (by omega)
 have s_4:=o_4.size;have t_4:=o'.size;clear b0_3 b1_3 r_3 o_3 o' r' hos0_3;have hos1_4:=hos;have hlt1:∀ g,blk A1=some g->g<w4.heap.size:=fun g hg=>(hos1_4.aj g hg).2
 clear hos;have hbs1:w.heap.size+2<=w3.heap.size:=by omega
 have HMF:Hid (∃ F,dJ mxE w4 [[.int .i64 (1+v),.int .i64 (rows),.slice A0 x0.length c0],[.int .i64 (1+v),.int .i64 (1),.slice A1 x1.length c1]] [(⟨1+v,rows,x0⟩:Mx),(⟨1+v,1,x1⟩:Mx)] F/\Fr w4 (w.heap.size+2) F):=by
  have f0:=ek hos0_4;have f1:=ek hos1_4;have hd0:∀ g,g∈fpI A0 x0.length->g∈fpI A1 x1.length->False:=by
   intro g h1 h2;have a1:=hlt0 g (bz h1).2;rcases h2 with h2
   ·have a2:=(hos1_4.aj g (bz h2).2).1;omega
  have hd1:∀ g,g∈fpI A1 x1.length->False->False:=by
   intro g h1 h2;exact h2
  exact⟨_,⟨_,_,rfl,⟨A0,c0,rfl,MF.aB (m:=⟨1+v,rows,x0⟩) hos0_4⟩,⟨_,_,rfl,⟨A1,c1,rfl,MF.aB (m:=⟨1+v,1,x1⟩) hos1_4⟩,rfl⟩⟩,Fr.app (f0.mono (by omega)) (Fr.app (f1.mono (by omega)) (Fr.nil _ _) (fun g h1 h2=>by cases h2)) (fun g h1 h2=>hd0 g h1 (by simpa using h2))⟩
 have z0:w.heap.size<w4.heap.size:=b0_4.lt;have z1:w.heap.size+1<w4.heap.size:=b1_4.lt;have cb00:w4.cell? ⟨w.heap.size,0,none⟩=some (.int .i64 0):=b0_4.cell 0;have fb00:w4.frozen? ⟨w.heap.size,0,none⟩=false:=b0_4.frozen 0;have cb01:w4.cell? ⟨w.heap.size,1,none⟩=some (.slice none 0 0):=b0_4.cell 1;have fb01:w4.frozen? ⟨w.heap.size,1,none⟩=false:=b0_4.frozen 1;have cb10:w4.cell? ⟨w.heap.size+1,0,none⟩=some (.int .i64 1):=b1_4.cell 0;have fb10:w4.frozen? ⟨w.heap.size+1,0,none⟩=false:=b1_4.frozen 0;have cb11:w4.cell? ⟨w.heap.size+1,1,none⟩=some (.slice none 0 0):=b1_4.cell 1;have fb11:w4.frozen? ⟨w.heap.size+1,1,none⟩=false:=b1_4.frozen 1
 go_wp2_with fail
 refine Qc (DH rb _) ?_;obtain⟨F,hE,hF⟩:=HMF.out;have hkk:∀ g,g∈F->(((w4.setCell ⟨w.heap.size+1,1,none⟩ (.slice (some ⟨w4.heap.size,0,none⟩) 2 2)).setCell ⟨w.heap.size,0,none⟩ (.int .i64 1)).setCell ⟨w.heap.size,1,none⟩ (.slice (some ⟨w4.heap.size,0,none⟩) 2 2)).heap[g]?=w4.heap[g]?:=fun g hg=>by
  have:=(hF.2 g hg).1
  exact(Below.heap_setCell _ _ _ g (by dsimp only;omega)).trans ((Below.heap_setCell _ _ _ g (by dsimp only;omega)).trans (Below.heap_setCell _ _ _ g (by dsimp only;omega)))
 have hzz:(((w4.setCell ⟨w.heap.size+1,1,none⟩ (.slice (some ⟨w4.heap.size,0,none⟩) 2 2)).setCell ⟨w.heap.size,0,none⟩ (.int .i64 1)).setCell ⟨w.heap.size,1,none⟩ (.slice (some ⟨w4.heap.size,0,none⟩) 2 2)).heap.size=w4.heap.size:=by simp[World.setCell]
 have hox:=OX.lit (((w4.setCell ⟨w.heap.size+1,1,none⟩ (.slice (some ⟨w4.heap.size,0,none⟩) 2 2)).setCell ⟨w.heap.size,0,none⟩ (.int .i64 1)).setCell ⟨w.heap.size,1,none⟩ (.slice (some ⟨w4.heap.size,0,none⟩) 2 2)) (base:=w.heap.size+2) (by rw[hzz];omega) 37 (hE.au hkk) (hF.au hkk) (by unfold maxLen;simp)
 rw[hzz] at hox;clear hkk hzz;obtain⟨F2,hr2,hf2⟩:=hox.ri;simp only[List.flatten_cons,List.flatten_nil,List.cons_append,List.nil_append,List.length_cons,List.length_nil] at hr2 hf2;have HR2:=Qh hr2;have HF2:=Qh hf2;clear hE hF hox hr2 hf2 HMF;have HR:=Qh r_4;have HO:=Qh o_4;clear r_4 o_4 hos0_4 hlt0 hos1_4 hlt1;go_wp2
 exact bodyPost_ret (v:= .agg #[.int .i64 1,.slice (some ⟨w4.heap.size,0,none⟩) 2 2]) (by simp[results,results161,go_sem,z0,z1,cb00,fb00,cb01,fb01,cb10,fb10,cb11,fb11]) rfl ⟨_,2,2,[(⟨1+v,rows,x0⟩:Mx),(⟨1+v,1,x1⟩:Mx)],F2,rfl,HR2.out,HF2.out.mono (by omega),by omega,by intro m hm;simp at hm;rcases hm with rfl|rfl <;> assumption,fun _=>⟨_,rfl,by dsimp only;omega,by dsimp only;omega⟩,((((((HR.out.setCell (by dsimp only;omega) _).setCell (by dsimp only;omega) _).setCell (by dsimp only;omega) _).alloc _))).mono (by omega),(((((HO.out.setCell (.inr (by dsimp only;omega)) _).setCell (.inr (by dsimp only;omega)) _).setCell (.inr (by dsimp only;omega)) _).alloc _))⟩
theorem Eg (rb P:Nat) (rows cols:Int) (hr:1<=rows/\rows<=5) (hc:1<=cols/\cols<=5) (w:World) (h:Rd w rb P) (hP:P<900000) :
  Calls prog 161 #[.pointer (some ⟨rb,0,none⟩),.int .i64 2,.int .i64 rows,.int .i64 cols,.int .i64 0] w (DLy w rb (P+700) 2):=by
 obtain⟨u1,hu1⟩:∃ u,u=((w.alloc (.cells #[.int .i64 0,.slice none 0 0] 80)).alloc (.cells #[.int .i64 2,.slice none 0 0] 80)):=⟨_,rfl⟩;have b0_1:Blk u1 w.heap.size 80 #[.int .i64 0,.slice none 0 0]:=by rw[hu1];exact(Blk.new _ _ _).alloc _
 have b1_1:Blk u1 (w.heap.size+1) 80 #[.int .i64 2,.slice none 0 0]:=by rw[hu1];have h:=Blk.new (w.alloc (.cells #[.int .i64 0,.slice none 0 0] 80)) 80 #[.int .i64 2,.slice none 0 0];simpa using h
 have r_1:Rd u1 rb P:=by rw[hu1];exact(h.alloc _).alloc _
 have o_1:aZ rb w u1:=by rw[hu1];exact((aZ.refl rb w).alloc _).alloc _
 have hrw:=h.lt;clear h
 go_enter func161,ntmps161
 go_wp2_with fail
 rw[<-hu1];have s_1:w.heap.size+2<=u1.heap.size:=by rw[hu1];simp
 clear hu1;have z0:w.heap.size<u1.heap.size:=b0_1.lt;have z1:w.heap.size+1<u1.heap.size:=b1_1.lt;have cb00:u1.cell? ⟨w.heap.size,0,none⟩=some (.int .i64 0):=b0_1.cell 0;have fb00:u1.frozen? ⟨w.heap.size,0,none⟩=false:=b0_1.frozen 0;have cb01:u1.cell? ⟨w.heap.size,1,none⟩=some (.slice none 0 0):=b0_1.cell 1;have fb01:u1.frozen? ⟨w.heap.size,1,none⟩=false:=b0_1.frozen 1;have cb10:u1.cell? ⟨w.heap.size+1,0,none⟩=some (.int .i64 2):=b1_1.cell 0;have fb10:u1.frozen? ⟨w.heap.size+1,0,none⟩=false:=b1_1.frozen 0;have cb11:u1.cell? ⟨w.heap.size+1,1,none⟩=some (.slice none 0 0):=b1_1.cell 1;have fb11:u1.frozen? ⟨w.heap.size+1,1,none⟩=false:=b1_1.frozen 1
 go_wp2_with fail
 refine Qc (DH rb _) ?_;have HR:=Qh r_1;have HO:=Qh o_1;clear r_1 o_1;go_wp2
 exact bodyPost_ret (v:= .agg #[.int .i64 2,.slice none 0 0]) (by simp[results,results161,go_sem,z0,z1,cb00,fb00,cb01,fb01,cb10,fb10,cb11,fb11]) rfl ⟨none,0,0,[],[],rfl,RI.nil _ none (by unfold maxLen;omega),Fr.nil _ _,by omega,(fun m hm=>by cases hm),fun h=>absurd h (by decide),(((HR.out.setCell (by dsimp only;omega) _).setCell (by dsimp only;omega) _)).mono (by omega),((HO.out.setCell (.inr (by dsimp only;omega)) _).setCell (.inr (by dsimp only;omega)) _)⟩
theorem Eh (rb P:Nat) (rows cols:Int) (hr:1<=rows/\rows<=5) (hc:1<=cols/\cols<=5) (w:World) (h:Rd w rb P) (hP:P<900000) :
  Calls prog 161 #[.pointer (some ⟨rb,0,none⟩),.int .i64 3,.int .i64 rows,.int .i64 cols,.int .i64 0] w (DLy w rb (P+700) 3):=by
 obtain⟨u1,hu1⟩:∃ u,u=((w.alloc (.cells #[.int .i64 0,.slice none 0 0] 80)).alloc (.cells #[.int .i64 3,.slice none 0 0] 80)):=⟨_,rfl⟩;have b0_1:Blk u1 w.heap.size 80 #[.int .i64 0,.slice none 0 0]:=by rw[hu1];exact(Blk.new _ _ _).alloc _
 have b1_1:Blk u1 (w.heap.size+1) 80 #[.int .i64 3,.slice none 0 0]:=by rw[hu1];have h:=Blk.new (w.alloc (.cells #[.int .i64 0,.slice none 0 0] 80)) 80 #[.int .i64 3,.slice none 0 0];simpa using h
 have r_1:Rd u1 rb P:=by rw[hu1];exact(h.alloc _).alloc _
 have o_1:aZ rb w u1:=by rw[hu1];exact((aZ.refl rb w).alloc _).alloc _
 have hrw:=h.lt;clear h
 go_enter func161,ntmps161
 go_wp2_with fail
 rw[<-hu1];have s_1:w.heap.size+2<=u1.heap.size:=by rw[hu1];simp
 clear hu1;refine(FF rb (P) (cols) (cols) hc hc u1 r_1 (by omega)).mono ?_
 rintro e w2 ⟨A0,c0,x0,rfl,hos,hl0,r',o'⟩;have b0_2:=b0_1.only o' (by omega)
 have b1_2:=b1_1.only o' (by omega)
 have r_2:=r';have o_2:=o_1.trans o';have s_2:=o_2.size;have t_2:=o'.size;clear b0_1 b1_1 r_1 o_1 o' r';have hos0_2:=hos;have hlt0:∀ g,blk A0=some g->g<w2.heap.size:=fun g hg=>(hos0_2.aj g hg).2
 clear hos;have hbs0:w.heap.size+2<=u1.heap.size:=by omega
 go_wp2_with fail
 refine(FF rb (P+220) (cols) (cols) hc hc w2 r_2 (by omega)).mono ?_
 rintro e w3 ⟨A1,c1,x1,rfl,hos,hl1,r',o'⟩;have b0_3:=b0_2.only o' (by omega)
 have b1_3:=b1_2.only o' (by omega)
 have r_3:=r';have o_3:=o_2.trans o';have hos0_3:=hos0_2.only o' (by omega)
 have s_3:=o_3.size;have t_3:=o'.size;clear b0_2 b1_2 r_2 o_2 o' r' hos0_2;have hos1_3:=hos;have hlt1:∀ g,blk A1=some g->g<w3.heap.size:=fun g hg=>(hos1_3.aj g hg).2
 clear hos;have hbs1:w.heap.size+2<=w2.heap.size:=by omega
 go_wp2_with fail
 refine(FF rb (P+220+220) (cols) (cols) hc hc w3 r_3 (by omega)).mono ?_
 rintro e w4 ⟨A2,c2,x2,rfl,hos,hl2,r',o'⟩;have b0_4:=b0_3.only o' (by omega)
 have b1_4:=b1_3.only o' (by omega)
 have r_4:=r';have o_4:=o_3.trans o';have hos0_4:=hos0_3.only o' (by omega)
 have hos1_4:=hos1_3.only o' (by omega)
 have s_4:=o_4.size;have t_4:=o'.size;clear b0_3 b1_3 r_3 o_3 o' r' hos0_3 hos1_3;have hos2_4:=hos;have hlt2:∀ g,blk A2=some g->g<w4.heap.size:=fun g hg=>(hos2_4.aj g hg).2
 clear hos;have hbs2:w.heap.size+2<=w3.heap.size:=by omega
 have HMF:Hid (∃ F,dJ mxE w4 [[.int .i64 (cols),.int .i64 (cols),.slice A0 x0.length c0],[.int .i64 (cols),.int .i64 (cols),.slice A1 x1.length c1],[.int .i64 (cols),.int .i64 (cols),.slice A2 x2.length c2]] [(⟨cols,cols,x0⟩:Mx),(⟨cols,cols,x1⟩:Mx),(⟨cols,cols,x2⟩:Mx)] F/\Fr w4 (w.heap.size+2) F):=by
  have f0:=ek hos0_4;have f1:=ek hos1_4;have f2:=ek hos2_4;have hd0:∀ g,g∈fpI A0 x0.length->g∈fpI A1 x1.length\/g∈fpI A2 x2.length->False:=by
   intro g h1 h2;have a1:=hlt0 g (bz h1).2;rcases h2 with h2|h2
   ·have a2:=(hos1_4.aj g (bz h2).2).1;omega
   ·have a2:=(hos2_4.aj g (bz h2).2).1;omega
  have hd1:∀ g,g∈fpI A1 x1.length->g∈fpI A2 x2.length->False:=by
   intro g h1 h2;have a1:=hlt1 g (bz h1).2;rcases h2 with h2
   ·have a2:=(hos2_4.aj g (bz h2).2).1;omega
  have hd2:∀ g,g∈fpI A2 x2.length->False->False:=by
   intro g h1 h2;exact h2
  exact⟨_,⟨_,_,rfl,⟨A0,c0,rfl,MF.aB (m:=⟨cols,cols,x0⟩) hos0_4⟩,⟨_,_,rfl,⟨A1,c1,rfl,MF.aB (m:=⟨cols,cols,x1⟩) hos1_4⟩,⟨_,_,rfl,⟨A2,c2,rfl,MF.aB (m:=⟨cols,cols,x2⟩) hos2_4⟩,rfl⟩⟩⟩,Fr.app (f0.mono (by omega)) (Fr.app (f1.mono (by omega)) (Fr.app (f2.mono (by omega)) (Fr.nil _ _) (fun g h1 h2=>by cases h2)) (fun g h1 h2=>hd1 g h1 (by simpa using h2))) (fun g h1 h2=>hd0 g h1 (by simpa using h2))⟩
 have z0:w.heap.size<w4.heap.size:=b0_4.lt;have z1:w.heap.size+1<w4.heap.size:=b1_4.lt;have cb00:w4.cell? ⟨w.heap.size,0,none⟩=some (.int .i64 0):=b0_4.cell 0;have fb00:w4.frozen? ⟨w.heap.size,0,none⟩=false:=b0_4.frozen 0;have cb01:w4.cell? ⟨w.heap.size,1,none⟩=some (.slice none 0 0):=b0_4.cell 1;have fb01:w4.frozen? ⟨w.heap.size,1,none⟩=false:=b0_4.frozen 1;have cb10:w4.cell? ⟨w.heap.size+1,0,none⟩=some (.int .i64 3):=b1_4.cell 0;have fb10:w4.frozen? ⟨w.heap.size+1,0,none⟩=false:=b1_4.frozen 0;have cb11:w4.cell? ⟨w.heap.size+1,1,none⟩=some (.slice none 0 0):=b1_4.cell 1;have fb11:w4.frozen? ⟨w.heap.size+1,1,none⟩=false:=b1_4.frozen 1
 go_wp2_with fail
 refine Qc (DH rb _) ?_;obtain⟨F,hE,hF⟩:=HMF.out;have hkk:∀ g,g∈F->(((w4.setCell ⟨w.heap.size+1,1,none⟩ (.slice (some ⟨w4.heap.size,0,none⟩) 3 3)).setCell ⟨w.heap.size,0,none⟩ (.int .i64 3)).setCell ⟨w.heap.size,1,none⟩ (.slice (some ⟨w4.heap.size,0,none⟩) 3 3)).heap[g]?=w4.heap[g]?:=fun g hg=>by
  have:=(hF.2 g hg).1
  exact(Below.heap_setCell _ _ _ g (by dsimp only;omega)).trans ((Below.heap_setCell _ _ _ g (by dsimp only;omega)).trans (Below.heap_setCell _ _ _ g (by dsimp only;omega)))
 have hzz:(((w4.setCell ⟨w.heap.size+1,1,none⟩ (.slice (some ⟨w4.heap.size,0,none⟩) 3 3)).setCell ⟨w.heap.size,0,none⟩ (.int .i64 3)).setCell ⟨w.heap.size,1,none⟩ (.slice (some ⟨w4.heap.size,0,none⟩) 3 3)).heap.size=w4.heap.size:=by simp[World.setCell]
 have hox:=OX.lit (((w4.setCell ⟨w.heap.size+1,1,none⟩ (.slice (some ⟨w4.heap.size,0,none⟩) 3 3)).setCell ⟨w.heap.size,0,none⟩ (.int .i64 3)).setCell ⟨w.heap.size,1,none⟩ (.slice (some ⟨w4.heap.size,0,none⟩) 3 3)) (base:=w.heap.size+2) (by rw[hzz];omega) 37 (hE.au hkk) (hF.au hkk) (by unfold maxLen;simp)
 rw[hzz] at hox;clear hkk hzz;obtain⟨F2,hr2,hf2⟩:=hox.ri;simp only[List.flatten_cons,List.flatten_nil,List.cons_append,List.nil_append,List.length_cons,List.length_nil] at hr2 hf2;have HR2:=Qh hr2;have HF2:=Qh hf2;clear hE hF hox hr2 hf2 HMF;have HR:=Qh r_4;have HO:=Qh o_4;clear r_4 o_4 hos0_4 hlt0 hos1_4 hlt1 hos2_4 hlt2;go_wp2
 exact bodyPost_ret (v:= .agg #[.int .i64 3,.slice (some ⟨w4.heap.size,0,none⟩) 3 3]) (by simp[results,results161,go_sem,z0,z1,cb00,fb00,cb01,fb01,cb10,fb10,cb11,fb11]) rfl ⟨_,3,3,[(⟨cols,cols,x0⟩:Mx),(⟨cols,cols,x1⟩:Mx),(⟨cols,cols,x2⟩:Mx)],F2,rfl,HR2.out,HF2.out.mono (by omega),by omega,by intro m hm;simp at hm;rcases hm with rfl|rfl|rfl <;> assumption,fun h=>absurd h (by decide),((((((HR.out.setCell (by dsimp only;omega) _).setCell (by dsimp only;omega) _).setCell (by dsimp only;omega) _).alloc _))).mono (by omega),(((((HO.out.setCell (.inr (by dsimp only;omega)) _).setCell (.inr (by dsimp only;omega)) _).setCell (.inr (by dsimp only;omega)) _).alloc _))⟩
end
theorem Er {kd:Int} (hk:1<=kd/\kd<=3) (rb P:Nat) (rows cols:Int) (hr:1<=rows/\rows<=5) (hc:1<=cols/\cols<=5) (w:World) (h:Rd w rb P) (hP:P<900000) :
  Calls prog 161 #[.pointer (some ⟨rb,0,none⟩),.int .i64 kd,.int .i64 rows,.int .i64 cols,.int .i64 0] w (DLy w rb (P+700) kd):=by
 have:kd=1\/kd=2\/kd=3:=by omega
 rcases this with rfl|rfl|rfl
 ·exact Ef rb P rows cols hr hc w h hP
 ·exact Eg rb P rows cols hr hc w h hP
 ·exact Eh rb P rows cols hr hc w h hP
def DNt (w:World) (rb P:Nat) (e:Ending) (w':World):Prop:=∃ A n c ls F,e= .returned (.slice A n c)/\RI (kE mxE) w' A n c ls F/\Fr w' w.heap.size F/\n<=3/\(∀ l,l∈ls->l.2.length<=3/\∀ m,m∈l.2->m.v.length<=26)/\Rd w' rb P/\aZ rb w w'
theorem EL (rb P:Nat) (rows cols:Int) (hr:1<=rows/\rows<=5) (hc:1<=cols/\cols<=5) (w:World) (h:Rd w rb P) (hP:P<100000) :
  Calls prog 120 #[.pointer (some ⟨rb,0,none⟩),.int .i64 rows,.int .i64 cols,.int .i64 0] w (DNt w rb (P+4000)):=by
 obtain⟨i2,hi2,hy0,hy1,hy2⟩:=info_parts we;have hrw:=h.lt;have HX0:Hid (OX (kE mxE) (w.alloc (.cells #[] 80)) w.heap.size 80 (some ⟨w.heap.size,0,none⟩) 0 0 [] [] []):=OX.kG w Ql _;obtain⟨hr1,hr2⟩:=hr;have HC:=Qh hc;clear hc
 go_enter func120,ntmps120
 go_wp2_with fail
 refine(FE rb P 4 _ (h.alloc _) (by omega)).mono ?_
 rintro e w2 ⟨v,rfl,v0,v1,r2,o2⟩;have c1:v<=3:=by omega
 have HX2:=Qh (HX0.out.only o2 hrw);have HO2:Hid (aZ rb w w2):=((aZ.refl rb w).alloc _).trans o2;have HR2:Hid (Rd w2 rb (P+1+800*0)):=r2;clear v1 h r2 o2 HX0;go_wp2
 go_loopw [1,9,10] (fun v1 v9 v10 wr=>∃ (j:Nat) (k rw:Int),0<=k/\(j:Int)+k<=3/\1<=rw/\rw<=5/\v10= .int .i64 k/\v1= .int .i64 rw/\∃ (A:Option Addr) (c:Nat) (css:List (List Value)) (ls:List (Int×List Mx)) (F:List Nat),v9= .slice A j c/\Hid (OX (kE mxE) wr w.heap.size 80 A j c css ls F)/\Hid (∀ l,l∈ls->l.2.length<=3/\∀ m,m∈l.2->m.v.length<=26)/\Hid (Rd wr rb (P+1+800*j))/\Hid (aZ rb w wr)) (fun _ _ k _=>(intOf k).toNat)
 case atStart=>exact⟨0,v,rows,by omega,by omega,hr1,hr2,by go_num,rfl,_,_,_,_,_,rfl,HX2,(fun l hl=>by cases hl),HR2,HO2⟩
 case round =>
 obtain⟨j,k,rw',k0,hjk,hw1,hw2,rfl,rfl,A,c,css,ls,FO,rfl,hox,hls,hrd,hon⟩:=hrel;have hwr:w.heap.size<=wr.heap.size:=hon.out.size
 by_cases hk:0<k
 ·clear HX2 HO2 HR2;have hrl:=hrd.out.lt
  go_wp2_with fail
  refine(FE rb (P+1+800*j) 4 _ (hrd.out.alloc _) (by omega)).mono ?_
  rintro e w2' ⟨q,rfl,q0,q1,r2,o2⟩;have q2:q<4:=by omega
  clear q1;obtain⟨kd,hkd,d0,d1⟩:=FG [1,1,2,3] 1 3 (by simp) q q0 (by simp;omega)
  have hcx:w2'.cell? ⟨wr.heap.size,q.toNat,none⟩=some (.int .i64 kd):=by
   rw[o2.cell (by simp) (by omega)]
   have:=kr wr [1,1,2,3] 3 q.toNat;rw[hkd] at this
   exact this
  have HX3:=Qh ((hox.out.alloc (.cells #[.int .i64 1,.int .i64 1,.int .i64 2,.int .i64 3] 3)).only o2 hrw);have HO3:Hid (aZ rb w w2'):=(hon.out.alloc _).trans o2;have HR3:=Qh r2;have hz2:wr.heap.size<w2'.heap.size:=by have:=o2.size;simp at this;omega
  clear r2 o2 hkd hrd hon hox
  go_wp2_with fail
  refine(Er ⟨d0,d1⟩ rb (P+1+800*j+1) rw' cols ⟨hw1,hw2⟩ HC.out w2' HR3.out (by omega)).mono ?_
  rintro e w3 ⟨A',n',c',ms,F',rfl,hri,hfr,hn',hms,hone,r3,o3⟩;have HOX:=Qh (HX3.out.only o3 hrw);have HO:Hid (aZ rb w w3):=HO3.out.trans o3;have HRD:=Qh r3;have HR:=Qh hri;have HF:=Qh hfr;have HMS:=Qh hms;have HML:=Qh hri.1;have hz3:w2'.heap.size<=w3.heap.size:=o3.size;have HDD:Hid (∀ g,g∈F'->g∉FO/\blk A≠some g):=fun g hg=>⟨fun h=>by have:=HX3.out.lt g h;have:=(hfr.2 g hg).1;omega,fun h=>by have:=(HX3.out.aj g h).2;have:=(hfr.2 g hg).1;omega⟩
  clear hri hfr hms r3 o3 HX3 HO3 HR3 hcx
  by_cases hk1:kd=1
  ·subst hk1;obtain⟨m0,hm0,hm1,hm2⟩:=hone rfl;obtain⟨b,off,cs,F0,rfl,hbl,hc0,_,A0,p0,rfl,_⟩:=HR.out.cells hm0 3 rfl;have e0:w3.cell? ⟨b,off,none⟩=some (.int .i64 m0.r):=by have:=hc0 0 (by omega);simpa using this
   have hn0:0<n':=by have:=(List.getElem?_eq_some_iff.1 hm0).1;have:=HML.out;omega
   have hn0':(0:Int)<(n':Int):=by omega
   clear hc0 hm0 hone;have HQ:Hid ((kE mxE).P w3 [.int .i64 1,.slice (some ⟨b,off,none⟩) n' c'] ((1:Int),ms) F'):=⟨some ⟨b,off,none⟩,c',by dsimp only;rw[HML.out],by dsimp only;rw[HML.out];exact HR.out⟩
   have HD:Hid (∀ g,g∈F'->g∉FO/\blk A≠some g):=HDD;clear HDD
   go_wp2_with (at_builtin;refine wpList_append_lies _ rfl _ _ 32 rfl w.heap.size 80 i2 (.agg #[.int .i64 0,.slice none 0 0]) 2 32 underlying32 hi2 hy0 hy1 hy2 rfl (by decide) (.slice A j c) j _ rfl (World.ownsRow.alloc (World.ownsRow.alloc HOX.out.1 _) _) ⟨w3.heap.size+1,0,none⟩ 1 1 [.int .i64 1,.slice (some ⟨b,off,none⟩) n' c'] rfl rfl ?c1 ?c2 ?c3 ?c4 ?c5 ?c6 (w3.heap.size+1+1) ?c7 ?_)
   case c1 =>
    have h:=dz (w3.alloc (.cells #[.int .i64 1,.slice (some ⟨b,off,none⟩) n' c'] 80)) 80 [.int .i64 1,.slice (some ⟨b,off,none⟩) n' c'];rw[World.size_alloc] at h
    exact h
   case c2=>intro u hu;simp at hu;rcases hu with rfl|rfl <;> rfl
   case c3=>omega
   case c4=>unfold maxLen;omega
   case c5=>omega
   case c6=>simp;omega
   case c7=>simp
   intro g cap5 w5 hown hgrow hat hlt5;have hal:Below w3.heap.size w3 (w3.alloc (.cells #[.int .i64 1,.slice (some ⟨b,off,none⟩) n' c'] 80)):=Qb.alloc Ql _;obtain⟨k1,_,k3⟩:=OX.push (HOX.out.below hal) ((kE mxE).au _ _ _ _ _ HQ.out (fun g hg=>hal.block g ((kE mxE).lt _ _ _ _ HQ.out g hg))) (((HF.out.mono (by omega)).below hal)) HD.out (Below.refl w.heap.size _) Ql (by simp;omega) hown hgrow (hat.imp id (fun h=>by rw[World.size_alloc];exact h))
   have K1:=Qh k1;have K2:Hid (aZ rb w w5):=⟨k3.os.trans (HO.out.alloc _).os,k3.tape.trans (HO.out.alloc _).tape,k3.output.trans (HO.out.alloc _).output,Nat.le_trans (HO.out.alloc _).size k3.size,fun i hi hne=>(k3.block i (by simp;omega) (fun e=>by have:=(HOX.out.aj i e.symm).1;omega)).trans ((HO.out.alloc (.cells #[.int .i64 1,.slice (some ⟨b,off,none⟩) n' c'] 80)).block i hi hne)⟩
   have K3:Hid (Rd w5 rb (P+1+800*(j+1))):=((HRD.out.alloc (.cells #[.int .i64 1,.slice (some ⟨b,off,none⟩) n' c'] 80)).au (fun i hi=>k3.block i (by simp;omega) (fun e=>by have:=(HOX.out.aj i e.symm).1;omega))).mono (by omega)
   have K4:Hid (∀ l,l∈ls++[((1:Int),ms)]->l.2.length<=3/\∀ m,m∈l.2->m.v.length<=26):=by
    intro l hl;rcases List.mem_append.1 hl with hl|hl
    ·exact hls.out l hl
    ·have e:l=((1:Int),ms):=by simpa using hl
     subst e
     exact⟨by dsimp only;rw[HML.out];exact hn',HMS.out⟩
   clear k1 k3 hal hown hgrow hat HOX HQ HD HR HF HRD HO;go_wp2
   go_roundw
   case rel=>exact⟨j+1,k-1,m0.r,by omega,by omega,by omega,by omega,by go_num,rfl,_,_,_,_,_,rfl,K1,K4,K3,K2⟩
   case measure=>simp[intOf] <;> omega
  ·have t1:(kd == 1)=false:=by simp[hk1]
   clear hone;have HQ:Hid ((kE mxE).P w3 [.int .i64 kd,.slice A' n' c'] (kd,ms) F'):=⟨A',c',by dsimp only;rw[HML.out],by dsimp only;rw[HML.out];exact HR.out⟩
   have HD:Hid (∀ g,g∈F'->g∉FO/\blk A≠some g):=HDD;clear HDD
   go_wp2_with (at_builtin;refine wpList_append_lies _ rfl _ _ 32 rfl w.heap.size 80 i2 (.agg #[.int .i64 0,.slice none 0 0]) 2 32 underlying32 hi2 hy0 hy1 hy2 rfl (by decide) (.slice A j c) j _ rfl (World.ownsRow.alloc (World.ownsRow.alloc HOX.out.1 _) _) ⟨w3.heap.size+1,0,none⟩ 1 1 [.int .i64 kd,.slice A' n' c'] rfl rfl ?c1 ?c2 ?c3 ?c4 ?c5 ?c6 (w3.heap.size+1+1) ?c7 ?_)
   case c1 =>
    have h:=dz (w3.alloc (.cells #[.int .i64 kd,.slice A' n' c'] 80)) 80 [.int .i64 kd,.slice A' n' c'];rw[World.size_alloc] at h
    exact h
   case c2=>intro u hu;simp at hu;rcases hu with rfl|rfl <;> rfl
   case c3=>omega
   case c4=>unfold maxLen;omega
   case c5=>omega
   case c6=>simp;omega
   case c7=>simp
   intro g cap5 w5 hown hgrow hat hlt5;have hal:Below w3.heap.size w3 (w3.alloc (.cells #[.int .i64 kd,.slice A' n' c'] 80)):=Qb.alloc Ql _;obtain⟨k1,_,k3⟩:=OX.push (HOX.out.below hal) ((kE mxE).au _ _ _ _ _ HQ.out (fun g hg=>hal.block g ((kE mxE).lt _ _ _ _ HQ.out g hg))) (((HF.out.mono (by omega)).below hal)) HD.out (Below.refl w.heap.size _) Ql (by simp;omega) hown hgrow (hat.imp id (fun h=>by rw[World.size_alloc];exact h))
   have K1:=Qh k1;have K2:Hid (aZ rb w w5):=⟨k3.os.trans (HO.out.alloc _).os,k3.tape.trans (HO.out.alloc _).tape,k3.output.trans (HO.out.alloc _).output,Nat.le_trans (HO.out.alloc _).size k3.size,fun i hi hne=>(k3.block i (by simp;omega) (fun e=>by have:=(HOX.out.aj i e.symm).1;omega)).trans ((HO.out.alloc (.cells #[.int .i64 kd,.slice A' n' c'] 80)).block i hi hne)⟩
   have K3:Hid (Rd w5 rb (P+1+800*(j+1))):=((HRD.out.alloc (.cells #[.int .i64 kd,.slice A' n' c'] 80)).au (fun i hi=>k3.block i (by simp;omega) (fun e=>by have:=(HOX.out.aj i e.symm).1;omega))).mono (by omega)
   have K4:Hid (∀ l,l∈ls++[(kd,ms)]->l.2.length<=3/\∀ m,m∈l.2->m.v.length<=26):=by
    intro l hl;rcases List.mem_append.1 hl with hl|hl
    ·exact hls.out l hl
    ·have e:l=(kd,ms):=by simpa using hl
     subst e
     exact⟨by dsimp only;rw[HML.out];exact hn',HMS.out⟩
   clear k1 k3 hal hown hgrow hat HOX HQ HD HR HF HRD HO;go_wp2
   go_roundw
   case rel=>exact⟨j+1,k-1,rw',by omega,by omega,by omega,by omega,by go_num,rfl,_,_,_,_,_,rfl,K1,K4,K3,K2⟩
   case measure=>simp[intOf] <;> omega
 ·obtain rfl:k=0:=by omega
  have HN:Hid (DNt w rb (P+4000) (.returned (.slice A j c)) wr):=by
   obtain⟨F2,h1,h2⟩:=hox.out.ri
   exact⟨A,j,c,ls,F2,rfl,h1,h2,by omega,hls.out,hrd.out.mono (by omega),hon.out⟩
  clear HX2 HO2 HR2
  go_wp2_with fail
  refine Qc (DH rb wr) ?_;go_wp2
  exact bodyPost_ret (v:= .slice A j c) (by simp[results,results120,go_sem]) rfl HN.out
theorem EC (m:Mx) (s:Int):smS (cH m s).1:=by
 unfold smS mS
 cases h:(mvB m && sdB s)
 ·rw[xk h];exact⟨by simp[Mx.z],by simp[Mx.z]⟩
 ·simp only[Bool.and_eq_true] at h;rw[lS h.1 h.2];obtain⟨h1,h2,h3,_⟩:=cZ h.1;have hn:=(zh h2 h3).2.2;refine⟨by simp only[gB,aD];omega,?_⟩
  dsimp only
  cases hl:az m (gB m.r m.c s)
  ·rw[ib hl];simp[Mx.z]
  ·rw[fi hl];have:=(bt hl).2.2;simp only[aD]
   omega
theorem DO:∀ (ms:List Mx) (s:Int) (p:Mx×Mx),p∈(aP ms s).1->smS p
 | [],s,p,h=>by cases h
 | m::ms,s,p,h=>by
  rcases List.mem_cons.1 h with rfl|h
  ·exact EC m s
  ·exact DO ms _ p h
theorem DP:∀ (net:List (Int×List Mx)) (s:Int),(∀ l,l∈net->l.2.length<=3)->∀ l,l∈(eE net s).1->kS smS l
 | [],s,_,l,h=>by cases h
 | a::net,s,hl,l,h=>by
  rcases List.mem_cons.1 h with rfl|h
  ·refine⟨?_,fun p hp=>DO _ _ p hp⟩
   have:=hl a (List.mem_cons_self ..);simp only[GS,pL]
   omega
  ·exact DP net _ (fun l hl'=>hl l (List.mem_cons_of_mem _ hl')) l h
theorem ED {net:List (Int×List Mx)} {s:Int} (hn:net.length<=3) (hl:∀ l,l∈net->l.2.length<=3):GH (kS smS) (o_ net s).1/\(o_ net s).1.length<=3:=by
 cases h:gH net s
 ·rw[tz h]
  exact⟨⟨by simp,fun p hp=>by cases hp⟩,by simp⟩
 ·rw[tA h];have e:=Eb net s
  exact⟨⟨by omega,DP net s hl⟩,by omega⟩
def DSN (w:World) (rb P:Nat) (e:Ending) (w':World):Prop:=∃ A n c xs F,e= .returned (.slice A n c)/\RI (kE smE) w' A n c xs F/\Fr w' w.heap.size F/\GH (kS smS) xs/\n<=5/\Rd w' rb P/\aZ rb w w'
theorem EW (W:World):dJ smE W [[.int .i64 0,.int .i64 0,.slice none 0 0,.int .i64 0,.int .i64 0,.slice none 0 0],[.int .i64 0,.int .i64 0,.slice none 0 0,.int .i64 0,.int .i64 0,.slice none 0 0]] [(Mx.z,Mx.z),(Mx.z,Mx.z)] [] :=
 ⟨[],[],rfl,⟨none,0,none,0,[],[],rfl,⟨SI.nil _ _,Nat.le_refl _,by unfold maxLen;omega,rfl⟩,⟨SI.nil _ _,Nat.le_refl _,by unfold maxLen;omega,rfl⟩,rfl⟩,⟨[],[],rfl,⟨none,0,none,0,[],[],rfl,⟨SI.nil _ _,Nat.le_refl _,by unfold maxLen;omega,rfl⟩,⟨SI.nil _ _,Nat.le_refl _,by unfold maxLen;omega,rfl⟩,rfl⟩,rfl⟩⟩
theorem Fo (W:World) {base:Nat} (hb:base<=W.heap.size):∃ F,RI smE (W.alloc (.cells #[.int .i64 0,.int .i64 0,.slice none 0 0,.int .i64 0,.int .i64 0,.slice none 0 0,.int .i64 0,.int .i64 0,.slice none 0 0,.int .i64 0,.int .i64 0,.slice none 0 0] 82)) (some ⟨W.heap.size,0,none⟩) 2 2 [(Mx.z,Mx.z),(Mx.z,Mx.z)] F/\Fr (W.alloc (.cells #[.int .i64 0,.int .i64 0,.slice none 0 0,.int .i64 0,.int .i64 0,.slice none 0 0,.int .i64 0,.int .i64 0,.slice none 0 0,.int .i64 0,.int .i64 0,.slice none 0 0] 82)) W.heap.size F:=by
 have:=OX.lit W Ql 82 (EW W) (Fr.nil W W.heap.size) (by unfold maxLen;simp)
 simpa using this.ri
theorem DW (rb P:Nat) (rows cols nn:Int) (hr:1<=rows/\rows<=5) (hc:1<=cols/\cols<=5) (hnn:0<=nn/\nn<=1000000) (w:World) (h:Rd w rb P) (hP:P<100000) :
  Calls prog 73 #[.pointer (some ⟨rb,0,none⟩),.int .i64 rows,.int .i64 cols,.int .i64 nn] w (DSN w rb (P+4020)):=by
 obtain⟨i2,hi2,hy0,hy1,hy2⟩:=info_parts nJ;have hrw:=h.lt
 go_enter func73,ntmps73
 go_wp2_with fail
 refine(EL rb P rows cols hr hc w h hP).mono ?_;rintro e w1 ⟨A1,n1,c1,ls,F1,rfl,hri,hfr,hn1,hls,r1,o1⟩
 go_wp2_with fail
 refine(Ea rb (P+4000) 0 (by omega) w1 r1 (by omega)).mono ?_
 rintro e w2 ⟨sd,rfl,r2,o2⟩;have HR1:=Qh (hri.only o2 (hfr.not hrw));have HLS:=Qh hls;have HN1:=Qh hri.1;clear hri hfr hls
 go_wp2_with fail
 refine(jP A1 n1 c1 ls F1 sd w2 HR1.out ⟨by rw[HN1.out];omega,fun l hl=>⟨by have:=(HLS.out l hl).1;omega,fun m hm=>by have:=(HLS.out l hl).2 m hm;unfold mS;omega⟩⟩).mono ?_
 rintro e w3 ⟨A,n,c,css,FO,rfl,hox,hb3⟩;obtain⟨hsm,hsl⟩:=ED (net:=ls) (s:=sd) (by rw[HN1.out];exact hn1) (fun l hl=>(HLS.out l hl).1)
 obtain⟨xs,hxs⟩:∃ xs,xs=(o_ ls sd).1:=⟨_,rfl⟩;rw[<-hxs] at hox hsm hsl;have hn3:n<=3:=by rw[<-hox.2.1];exact hsl
 have hw2:w.heap.size<=w2.heap.size:=(o1.trans o2).size;have HOX3:=Qh (hox.mono hw2);have HSM:=Qh hsm;have HO3:Hid (aZ rb w w3):=(o1.trans o2).below hb3;have HR3:=Qh (r2.below hb3);clear hox hb3 hsm hsl hxs r1 r2 o1 o2 h HR1 HLS hn1
 go_wp2_with fail
 refine(EG rb (P+4000+3) nn hnn w3 HR3.out (by omega)).mono ?_
 rintro e w4 ⟨od,rfl,r4,o4⟩;have HOX4:=Qh (HOX3.out.only o4 hrw);have HO4:Hid (aZ rb w w4):=HO3.out.trans o4;have HR4:=Qh r4;have hw4:w.heap.size<=w4.heap.size:=HO4.out.size;clear r4 o4 HOX3 HO3 HR3
 cases od
 ·have HN:Hid (DSN w rb (P+4020) (.returned (.slice A n c)) w4):=by
   obtain⟨F2,h1,h2⟩:=HOX4.out.ri
   exact⟨_,_,_,_,F2,rfl,h1,h2,HSM.out,by omega,HR4.out.mono (by omega),HO4.out⟩
  go_wp2
  exact bodyPost_ret (v:= .slice A n c) (by simp[results,results73,go_sem]) rfl HN.out
 go_wp2_with fail
 refine(FE rb (P+4000+3+1) 3 w4 HR4.out (by omega)).mono ?_
 rintro e w5 ⟨q,rfl,q0,q1,r5,o5⟩;have HOX5:=Qh (HOX4.out.only o5 hrw);have HO5:Hid (aZ rb w w5):=HO4.out.trans o5;have HR5:=Qh r5;have hw5:w.heap.size<=w5.heap.size:=HO5.out.size;have hq:q=0\/q=1\/q=2:=by omega
 clear r5 o5 HOX4 HO4 HR4 q0 q1;rcases hq with rfl|rfl|rfl
 ·go_wp2_with fail
  refine(FE rb (P+4000+3+1+1) 3 _ (HR5.out.alloc _) (by omega)).mono ?_
  rintro e w6 ⟨v,rfl,v0,v1,r6,o6⟩;have v2:v<3:=by omega
  clear v1;obtain⟨kd,hkd,d0,d1⟩:=FG [0,1,3] 0 3 (by simp) v v0 (by simp;omega)
  have hrl5:=HR5.out.lt;have hcx:w6.cell? ⟨w5.heap.size,v.toNat,none⟩=some (.int .i64 kd):=by
   rw[o6.cell (by simp) (by omega)]
   have:=kr w5 [0,1,3] 3 v.toNat;rw[hkd] at this
   exact this
  have HOX:=Qh ((HOX5.out.alloc (.cells #[.int .i64 0,.int .i64 1,.int .i64 3] 3)).only o6 hrw);have HO:Hid (aZ rb w w6):=(HO5.out.alloc _).trans o6;have HRD:=Qh r6;have hw6:w.heap.size<=w6.heap.size:=HO.out.size;have hz6:w5.heap.size<w6.heap.size:=by have:=o6.size;simp at this;omega
  clear r6 o6 hkd HOX5 HO5 HR5;have hal0:Below w6.heap.size w6 w6:=Below.refl _ _;have hzb:w6.heap.size=w6.heap.size:=rfl;have HQ:Hid ((kE smE).P w6 [.int .i64 kd,.slice none 0 0] ((kd,[]):Int×List (Mx×Mx)) ([]:List Nat)):=⟨none,0,rfl,RI.nil _ none (by unfold maxLen;omega)⟩
  have HGF:Hid (Fr w6 w.heap.size ([]:List Nat)):=Fr.nil _ _;have HD:Hid (∀ g,g∈([]:List Nat)->g∉FO/\blk A≠some g):=fun g hg=>by cases hg
  go_wp2_with (at_builtin;refine wpList_append_lies _ rfl _ _ 23 rfl w.heap.size 99 i2 (.agg #[.int .i64 0,.slice none 0 0]) 2 32 underlying23 hi2 hy0 hy1 hy2 rfl (by decide) (.slice A n c) n _ rfl (World.ownsRow.alloc (HOX.out.below hal0).1 _) ⟨w6.heap.size,0,none⟩ 1 1 [.int .i64 kd,.slice none 0 0] rfl rfl ?c1 ?c2 ?c3 ?c4 ?c5 ?c6 (w6.heap.size+1) ?c7 ?_)
  case c1 =>
   have h:=dz w6 99 [.int .i64 kd,.slice none 0 0]
   exact h
  case c2=>intro u hu;simp at hu;rcases hu with rfl|rfl <;> rfl
  case c3=>omega
  case c4=>unfold maxLen;omega
  case c5=>omega
  case c6=>simp;omega
  case c7=>simp
  intro g cap5 w9 hown hgrow hat hlt5;obtain⟨k1,_,k3⟩:=OX.push (HOX.out.below hal0) HQ.out HGF.out HD.out (Below.refl w.heap.size _) Ql hw6 hown hgrow hat;have hw9:w6.heap.size<=w9.heap.size:=k3.size;have KO:Hid (aZ w.heap.size w w9->True):=fun _=>trivial
  have K2:Hid (aZ rb w w9):=⟨k3.os.trans (HO.out.trans (aZ.eW hal0)).os,k3.tape.trans (HO.out.trans (aZ.eW hal0)).tape,k3.output.trans (HO.out.trans (aZ.eW hal0)).output,Nat.le_trans (HO.out.trans (aZ.eW hal0)).size k3.size,fun i hi hne=>(k3.block i (by omega) (fun e=>by have:=(HOX.out.aj i e.symm).1;omega)).trans ((HO.out.trans (aZ.eW hal0)).block i hi hne)⟩
  have K3:Hid (Rd w9 rb (P+4000+3+1+1+1)):=(HRD.out.below hal0).au (fun i hi=>k3.block i (by omega) (fun e=>by have:=(HOX.out.aj i e.symm).1;omega))
  have HN:Hid (DSN w rb (P+4020) (.returned (.slice (some ⟨g,0,none⟩) (n+1) cap5)) w9):=by
   obtain⟨F2,h1,h2⟩:=k1.ri
   exact⟨_,_,_,_,F2,rfl,h1,h2,⟨by have:=HOX.out.2.1;rw[List.length_append,this];simp;omega,fun p hp=>by
    rcases List.mem_append.1 hp with hp|hp
    ·exact HSM.out.2 p hp
    ·have e:p=((kd,[]):Int×List (Mx×Mx)):=by simpa using hp
     subst e
     exact⟨by simp,fun p hp=>by cases hp⟩⟩,by omega,K3.out.mono (by omega),K2.out⟩
  clear k1 k3 hown hgrow hat HOX HQ HD HGF HRD HO K2 K3 KO;go_wp2
  exact bodyPost_ret (v:= .slice (some ⟨g,0,none⟩) (n+1) cap5) (by simp[results,results73,go_sem]) rfl HN.out
 ·have HOX:=Qh HOX5.out;have HO:=Qh HO5.out;have HRD:=Qh HR5.out;obtain⟨FZ,hrz,hfz⟩:=Fo w5 (Nat.le_refl w5.heap.size);have HRZ:=Qh hrz;have HFZ:=Qh hfz;clear hrz hfz HOX5 HO5 HR5;have hal0:Below w5.heap.size w5 (w5.alloc (.cells #[.int .i64 0,.int .i64 0,.slice none 0 0,.int .i64 0,.int .i64 0,.slice none 0 0,.int .i64 0,.int .i64 0,.slice none 0 0,.int .i64 0,.int .i64 0,.slice none 0 0] 82)):=(Qb.alloc (by simp) _)
  have hzb:(w5.alloc (.cells #[.int .i64 0,.int .i64 0,.slice none 0 0,.int .i64 0,.int .i64 0,.slice none 0 0,.int .i64 0,.int .i64 0,.slice none 0 0,.int .i64 0,.int .i64 0,.slice none 0 0] 82)).heap.size=w5.heap.size+1:=by simp
  have HQ:Hid ((kE smE).P (w5.alloc (.cells #[.int .i64 0,.int .i64 0,.slice none 0 0,.int .i64 0,.int .i64 0,.slice none 0 0,.int .i64 0,.int .i64 0,.slice none 0 0,.int .i64 0,.int .i64 0,.slice none 0 0] 82)) [.int .i64 1,.slice (some ⟨w5.heap.size,0,none⟩) 2 2] ((1,[(Mx.z,Mx.z),(Mx.z,Mx.z)]):Int×List (Mx×Mx)) FZ):=⟨_,2,rfl,HRZ.out⟩;have HGF:Hid (Fr (w5.alloc (.cells #[.int .i64 0,.int .i64 0,.slice none 0 0,.int .i64 0,.int .i64 0,.slice none 0 0,.int .i64 0,.int .i64 0,.slice none 0 0,.int .i64 0,.int .i64 0,.slice none 0 0] 82)) w.heap.size FZ):=HFZ.out.mono hw5;have HD:Hid (∀ g,g∈FZ->g∉FO/\blk A≠some g):=fun g hg=>⟨fun h=>by have:=HOX.out.lt g h;have:=(HFZ.out.2 g hg).1;omega,fun h=>by have:=(HOX.out.aj g h).2;have:=(HFZ.out.2 g hg).1;omega⟩
  go_wp2_with (at_builtin;refine wpList_append_lies _ rfl _ _ 23 rfl w.heap.size 99 i2 (.agg #[.int .i64 0,.slice none 0 0]) 2 32 underlying23 hi2 hy0 hy1 hy2 rfl (by decide) (.slice A n c) n _ rfl (World.ownsRow.alloc (HOX.out.below hal0).1 _) ⟨w5.heap.size+1,0,none⟩ 1 1 [.int .i64 1,.slice (some ⟨w5.heap.size,0,none⟩) 2 2] rfl rfl ?c1 ?c2 ?c3 ?c4 ?c5 ?c6 (w5.heap.size+1+1) ?c7 ?_)
  case c1 =>
   have h:=dz (w5.alloc (.cells #[.int .i64 0,.int .i64 0,.slice none 0 0,.int .i64 0,.int .i64 0,.slice none 0 0,.int .i64 0,.int .i64 0,.slice none 0 0,.int .i64 0,.int .i64 0,.slice none 0 0] 82)) 99 [.int .i64 1,.slice (some ⟨w5.heap.size,0,none⟩) 2 2];rw[hzb] at h
   exact h
  case c2=>intro u hu;simp at hu;rcases hu with rfl|rfl <;> rfl
  case c3=>omega
  case c4=>unfold maxLen;omega
  case c5=>omega
  case c6=>simp;omega
  case c7=>simp
  intro g cap5 w9 hown hgrow hat hlt5;obtain⟨k1,_,k3⟩:=OX.push (HOX.out.below hal0) HQ.out HGF.out HD.out (Below.refl w.heap.size _) Ql (by rw[hzb];omega) hown hgrow (hat.imp id (fun h=>by rw[hzb];exact h))
  have hw9:(w5.alloc (.cells #[.int .i64 0,.int .i64 0,.slice none 0 0,.int .i64 0,.int .i64 0,.slice none 0 0,.int .i64 0,.int .i64 0,.slice none 0 0,.int .i64 0,.int .i64 0,.slice none 0 0] 82)).heap.size<=w9.heap.size:=k3.size;have KO:Hid (aZ w.heap.size w w9->True):=fun _=>trivial
  have K2:Hid (aZ rb w w9):=⟨k3.os.trans (HO.out.trans (aZ.eW hal0)).os,k3.tape.trans (HO.out.trans (aZ.eW hal0)).tape,k3.output.trans (HO.out.trans (aZ.eW hal0)).output,Nat.le_trans (HO.out.trans (aZ.eW hal0)).size k3.size,fun i hi hne=>(k3.block i (by rw[hzb];omega) (fun e=>by have:=(HOX.out.aj i e.symm).1;omega)).trans ((HO.out.trans (aZ.eW hal0)).block i hi hne)⟩
  have K3:Hid (Rd w9 rb (P+4000+3+1+1)):=(HRD.out.below hal0).au (fun i hi=>k3.block i (by rw[hzb];omega) (fun e=>by have:=(HOX.out.aj i e.symm).1;omega))
  have HN:Hid (DSN w rb (P+4020) (.returned (.slice (some ⟨g,0,none⟩) (n+1) cap5)) w9):=by
   obtain⟨F2,h1,h2⟩:=k1.ri
   exact⟨_,_,_,_,F2,rfl,h1,h2,⟨by have:=HOX.out.2.1;rw[List.length_append,this];simp;omega,fun p hp=>by
    rcases List.mem_append.1 hp with hp|hp
    ·exact HSM.out.2 p hp
    ·have e:p=((1,[(Mx.z,Mx.z),(Mx.z,Mx.z)]):Int×List (Mx×Mx)):=by simpa using hp
     subst e
     exact⟨by simp,fun p hp=>by simp at hp;subst hp;exact⟨by simp[mS,Mx.z],by simp[mS,Mx.z]⟩⟩⟩,by omega,K3.out.mono (by omega),K2.out⟩
  clear k1 k3 hown hgrow hat HOX HQ HD HGF HRD HO K2 K3 KO;go_wp2
  exact bodyPost_ret (v:= .slice (some ⟨g,0,none⟩) (n+1) cap5) (by simp[results,results73,go_sem]) rfl HN.out
 ·have H0:Hid (∃ css F',FX (kE smE) (w5.alloc (.cells (madeCells ZL (5*ZL.size)) 99)) w5.heap.size 99 w5.heap.size 5 css (List.replicate (5-0) ZL.toList).flatten (List.replicate 0 ((2,[]):Int×List (Mx×Mx))) F'):=⟨_,_,FX.made w5 _ ZL (by decide) rfl 5 (by unfold maxLen;omega)⟩
  have B0:Hid (Below w5.heap.size w5 (w5.alloc (.cells (madeCells ZL (5*ZL.size)) 99))):=Qb.alloc Ql _;have hmk:=fun W:World=>zf 5 (by omega) W
  obtain⟨O,hO⟩:∃ O,O=(Obj.cells (madeCells ZL (5*ZL.size)) 99):=⟨_,rfl⟩;rw[<-hO] at H0 B0 hmk;have hmk5:∀ W:World,(Instr.makeSlice 23 (.int .i64 5) (.int .i64 5)).run prog W= .ok (.slice (some ⟨W.heap.size,0,none⟩) 5 5) (W.alloc O):=hmk;clear hO hmk;go_wp2
  go_loopw [11] (fun i wr=>∃ j:Nat,j<=5/\i= .int .i64 j/\Hid (∃ css F',FX (kE smE) wr w5.heap.size 99 w5.heap.size 5 css (List.replicate (5-j) ZL.toList).flatten (List.replicate j ((2,[]):Int×List (Mx×Mx))) F')/\Hid (Below w5.heap.size w5 wr)) (fun i _=>5-(intOf i).toNat)
  case atStart=>exact⟨0,Nat.zero_le _,rfl,H0,B0⟩
  case round =>
  obtain⟨j,hj,rfl,hfx,hob⟩:=hrel;clear H0 B0 hmk5
  by_cases hlt:j<5
  ·obtain⟨css,FO,hF⟩:=hfx.out;have hgl:w5.heap.size<wr.heap.size:=hF.glt.2;have hnk:(List.replicate (5-j) ZL.toList).flatten= .int .i64 0 :: .slice none 0 0::(List.replicate (5-(j+1)) ZL.toList).flatten:=by
    rw[show 5-j=(5-(j+1))+1 by omega,List.replicate_succ,List.flatten_cons]
    rfl
   rw[hnk] at hF;have hpl:css.flatten.length=j*2:=by
    rw[dS hF.2.1,List.length_replicate]
    rfl
   have i0:(0:Int)<=(j:Int):=by omega
   have i1:(j:Int)<5:=by omega
   have c0:wr.cell? ⟨w5.heap.size,j*2,none⟩=some (.int .i64 0):=eG (a:=[]) hF.1 (by rw[hpl];rfl)
   have f0:wr.frozen? ⟨w5.heap.size,j*2,none⟩=false:=hF.1.frozen _;have hv6:=FX.put (E:=kE smE) (a:=[]) (pre:=css.flatten) (b:= .slice none 0 0::(List.replicate (5-(j+1)) ZL.toList).flatten) hF.1 (j:=j*2) (by rw[hpl];rfl) (.int .i64 2)
   have HFO:=Qh hF;have HV6:=Qh hv6;clear hF hnk hpl hv6 hfx;go_wp2;obtain⟨w6,hw6⟩:∃ u,u=wr.setCell ⟨w5.heap.size,j*2,none⟩ (.int .i64 2):=⟨_,rfl⟩;have K2:Hid (Below w5.heap.size w5 w6):=by rw[hw6];exact hob.out.setCell (by dsimp only;omega) _
   have K1:Hid (∃ css F',FX (kE smE) w6 w5.heap.size 99 w5.heap.size 5 css (List.replicate (5-(j+1)) ZL.toList).flatten (List.replicate (j+1) ((2,[]):Int×List (Mx×Mx))) F'):=by
    have hF:=HFO.out;have hE:∀ g',g'≠w5.heap.size->w6.heap[g']?=wr.heap[g']?:=fun g' hne=>by rw[hw6];exact Below.heap_setCell _ _ _ g' (by dsimp only;omega)
    have hv6:=HV6.out;rw[<-hw6] at hv6;have:=FX.step (E:=kE smE) (css:=css) (g:=w5.heap.size) (ys:=[.int .i64 2,.slice none 0 0]) (x:=(2,[])) (F1:=[]) hv6 hF.2.1 hF.2.2.1 hF.2.2.2 (fun g' hg'=>hE g' (fun e=>hF.2.2.2 (by rw[<-e];exact hg'))) ⟨none,0,rfl,RI.nil _ none (by unfold maxLen;omega)⟩ (Fr.nil _ _) (fun g' hg'=>by cases hg')
    rw[<-List.replicate_succ'] at this
    exact⟨_,_,this⟩
   rw[<-hw6];clear hw6 HV6
   go_roundw
   case rel=>exact⟨j+1,by omega,by go_num,K1,K2⟩
   case measure=>simp[intOf];omega
  ·obtain rfl:j=5:=by omega
   have HN:Hid (DSN w rb (P+4020) (.returned (.slice (some ⟨w5.heap.size,0,none⟩) 5 5)) wr):=by
    obtain⟨css,F',hF⟩:=hfx.out;obtain⟨F2,hr2,hf2⟩:=FX.ri hF (by simp)
    exact⟨_,_,_,_,F2,rfl,hr2,hf2.mono hw5,⟨by simp,fun p hp=>by rw[List.eq_of_mem_replicate hp];exact⟨by simp,fun q hq=>by cases hq⟩⟩,by omega,(HR5.out.below hob.out).mono (by omega),HO5.out.below hob.out⟩
   clear hfx;go_wp2
   exact bodyPost_ret (v:= .slice (some ⟨w5.heap.size,0,none⟩) 5 5) (by simp[results,results73,go_sem]) rfl HN.out
theorem dJ.take {α:Type} {E:Elt α} {w:World}:∀ {css:List (List Value)} {xs:List α} {F:List Nat} (m:Nat),dJ E w css xs F->∃ F',dJ E w (css.take m) (xs.take m) F'/\∀ g,g∈F'->g∈F
 | [],[],F,m,h=>⟨[],by simp[dJ],fun g hg=>by cases hg⟩
 | _::_,_::_,F,0,h=>⟨[],rfl,fun g hg=>by cases hg⟩
 | c::css,x::xs,F,m+1,⟨F1,F2,e,h1,h2⟩=>by
  obtain⟨F',h3,h4⟩:=h2.take m
  exact⟨F1++F',⟨F1,F',rfl,h1,h3⟩,fun g hg=>by
   rw[e];rcases List.mem_append.1 hg with h|h
   ·exact List.mem_append_left _ h
   ·exact List.mem_append_right _ (h4 g h)⟩
theorem RI.take {α:Type} {E:Elt α} {w:World} {A:Option Addr} {n cap:Nat} {xs:List α} {F:List Nat} (h:RI E w A n cap xs F) {m:Nat} (hm:m<=n):∃ F',RI E w A m cap (xs.take m) F'/\∀ g,g∈F'->g∈F:=by
 obtain⟨h1,h2,h3,h4⟩:=h;have hl:(xs.take m).length=m:=by rw[List.length_take,h1];omega
 rcases h4 with⟨h0,rfl⟩|⟨b,off,css,F',e,hb,rfl,he,hc⟩
 ·exact⟨[],⟨hl,by omega,h3,.inl ⟨by omega,rfl⟩⟩,fun g hg=>by cases hg⟩
 ·obtain⟨F2,h5,h6⟩:=he.take m;refine⟨b::F2,⟨hl,by omega,h3,.inr ⟨b,off,css.take m,F2,e,hb,rfl,h5,fun i cs hi j hj=>hc i cs ?_ j hj⟩⟩,fun g hg=>?_⟩
  ·rw[List.getElem?_take] at hi
   split at hi
   ·exact hi
   ·cases hi
  ·rcases List.mem_cons.1 hg with rfl|hg
   ·exact List.mem_cons_self ..
   ·exact List.mem_cons_of_mem _ (h6 g hg)
def DSv (w:World) (rb P:Nat) (e:Ending) (w':World):Prop:=∃ (A:Option Addr) (c:Nat) (x:List (Int×List (Mx×Mx))×Int) (F:List Nat),e= .returned (.agg #[.slice A x.1.length c,.int .i64 x.2])/\RI (kE smE) w' A x.1.length c x.1 F/\(∀ g,g∈F->w.heap.size<g)/\svS x/\Rd w' rb P/\aZ rb w w'
theorem Ei (rb P:Nat) (nn:Int) (hnn:0<=nn/\nn<=1000000) (w:World) (h:Rd w rb P) (hP:P<90000):Calls prog 32 #[.pointer (some ⟨rb,0,none⟩),.int .i64 nn] w (DSv w rb (P+4100)):=by
 have hrw:=h.lt;have hlt0:w.heap.size<(w.alloc (.cells #[.slice none 0 0,.int .i64 0] 25)).heap.size:=by simp
 have b_0:Blk (w.alloc (.cells #[.slice none 0 0,.int .i64 0] 25)) w.heap.size 25 #[.slice none 0 0,.int .i64 0]:=Blk.new _ _ _
 go_enter func32,ntmps32
 go_wp2_with fail
 refine(FE rb P 2 _ (h.alloc _) (by omega)).mono ?_
 rintro e w1 ⟨a,rfl,a0,a1,r1,o1⟩;have a2:a<=1:=by omega
 have b_1:=b_0.only o1 (by omega)
 have t_1:aZ rb w w1:=((aZ.refl rb w).alloc _).trans o1;clear a1 h o1 b_0 hlt0
 go_wp2_with fail
 refine(FE rb (P+1) 2 _ r1 (by omega)).mono ?_
 rintro e w2 ⟨b,rfl,b0,b1,r2,o2⟩;have b2:b<=1:=by omega
 have b_2:=b_1.only o2 (by omega)
 have t_2:=t_1.trans o2;have q2:w.heap.size<w2.heap.size:=b_2.lt;have ha:=IntWalk.i64_in (1+a) (by omega)
 have hb:=IntWalk.i64_in (1+b) (by omega)
 clear b1 r1 o2 b_1 t_1
 go_wp2_with fail
 refine(DW rb (P+1+1) (1+a) (1+b) nn (by omega) (by omega) hnn w2 r2 (by omega)).mono ?_
 rintro e w3 ⟨A,n,c,xs,F,rfl,hri,hfr,hsm,hn5,r3,o3⟩;have b_3:=b_2.only o3 (by omega)
 have t_3:=t_2.trans o3;clear r2 o3 b_2 t_2
 go_wp2_with fail
 refine(Ea rb (P+1+1+4020) nn hnn w3 r3 (by omega)).mono ?_
 rintro e w4 ⟨sd,rfl,r4,o4⟩;have B4:=Qh (b_3.only o4 (by omega))
 have T4:=Qh (t_3.trans o4);have HFG:Hid (∀ g,g∈F->w.heap.size<g):=fun g hg=>by have:=(hfr.2 g hg).1;omega
 have HRI:=Qh (hri.only o4 (hfr.not (by omega)))
 have HSM:=Qh hsm;have HR4:=Qh r4;have z4:w.heap.size<w4.heap.size:=(b_3.only o4 (by omega)).lt
 clear r3 o4 b_3 t_3 hri hfr hsm r4;have c40:w4.cell? ⟨w.heap.size,0,none⟩=some (.slice none 0 0):=B4.out.cell 0;have c41:w4.cell? ⟨w.heap.size,1,none⟩=some (.int .i64 0):=B4.out.cell 1;have f40:w4.frozen? ⟨w.heap.size,0,none⟩=false:=B4.out.frozen 0;have f41:w4.frozen? ⟨w.heap.size,1,none⟩=false:=B4.out.frozen 1
 by_cases hn2:2<n
 ·have hn2':(2:Int)<(n:Int):=by omega
  have hc2:2<=c:=by have:=HRI.out.2.1;omega
  obtain⟨x0,hx0,_⟩:=aH (xs:=xs) (j:=0) (by have:=HRI.out.1;omega)
  obtain⟨bb,off,_,_,rfl,_⟩:=HRI.out.at hx0;obtain⟨F2,h2,h3⟩:=HRI.out.take (m:=2) (by omega)
  have HR2:=Qh h2;have HFG2:Hid (∀ g,g∈F2->w.heap.size<g):=fun g hg=>HFG.out g (h3 g hg)
  clear h2 h3 hx0;go_wp2;refine bodyPost_ret (v:= .agg #[.slice (some ⟨bb,off,none⟩) 2 c,.int .i64 sd]) (by simp[results,results32,go_sem,c40,c41,f40,f41,z4]) rfl ?_
  refine⟨some ⟨bb,off,none⟩,c,(xs.take 2,sd),F2,by dsimp only;rw[HR2.out.1],?_,HFG2.out,⟨by dsimp only;rw[HR2.out.1];omega,fun p hp=>HSM.out.2 p (List.mem_of_mem_take hp)⟩,(((HR4.out.setCell (by dsimp only;omega) _).setCell (by dsimp only;omega) _).alloc _).mono (by omega),((T4.out.setCell (.inr (by dsimp only;omega)) _).setCell (.inr (by dsimp only;omega)) _).alloc _⟩
  dsimp only
  rw[HR2.out.1]
  exact RI.alloc (HR2.out.au fun g hg=>by
   have:=HFG2.out g hg
   exact(Below.heap_setCell _ _ _ g (by dsimp only;omega)).trans (Below.heap_setCell _ _ _ g (by dsimp only;omega))) _
 ·have hn2':¬(2:Int)<(n:Int):=by omega
  go_wp2;refine bodyPost_ret (v:= .agg #[.slice A n c,.int .i64 sd]) (by simp[results,results32,go_sem,c40,c41,f40,f41,z4]) rfl ?_
  refine⟨A,c,(xs,sd),F,by dsimp only;rw[HRI.out.1],?_,HFG.out,⟨HSM.out.1,HSM.out.2⟩,(((HR4.out.setCell (by dsimp only;omega) _).setCell (by dsimp only;omega) _).alloc _).mono (by omega),((T4.out.setCell (.inr (by dsimp only;omega)) _).setCell (.inr (by dsimp only;omega)) _).alloc _⟩
  dsimp only
  rw[HRI.out.1]
  exact RI.alloc (HRI.out.au fun g hg=>by
   have:=HFG.out g hg
   exact(Below.heap_setCell _ _ _ g (by dsimp only;omega)).trans (Below.heap_setCell _ _ _ g (by dsimp only;omega))) _
end Go.Proofs.YtjciicheoghcdaaGreatDoor
