/- Part of the proof: the law FnServiceRun is true for every input. -/
import Derived.OpenShut
import Derived.Test.YtjciicheoghcdaaGreatDoorVa
import Derived.Test.YtjciicheoghcdaaGreatDoorVk
import Derived.Test.YtjciicheoghcdaaGreatDoorVm
import Derived.Test.YtjciicheoghcdaaGreatDoorVn
import Derived.Test.YtjciicheoghcdaaGreatDoorVo
import Derived.Test.YtjciicheoghcdaaGreatDoorVq
namespace Go.Proofs.YtjciicheoghcdaaGreatDoor
open Go.RowKit Go.Proofs.Tryz
set_option linter.all false
set_option maxRecDepth 20000
set_option maxHeartbeats 16000000
section
attribute [local go_sem] af ah ae
theorem eF {T:TypeId} {s:Nat} {u:Value} {a b:List Value} {wi:World} {gj n c base:Nat} {pre:List Value} (h:VO wi base T s (some ⟨gj,0,none⟩) n c (pre++(a++u::b))) {i:Nat} (hi:i=pre.length+a.length):wi.cell? ⟨gj,i,none⟩=some u:=by
 have hl:=h.len;rw[h.cell i (by simp at hl;omega),hi,List.getElem?_append_right (by omega),Nat.add_sub_cancel_left,List.getElem?_append_right Ql,Nat.sub_self]
 rfl
theorem gp {w:World} {T:TypeId} {s base n c gj j:Nat} {pre a b:List Value} {u:Value} (h:VO w base T s (some ⟨gj,0,none⟩) n c (pre++(a++u::b))) (hj:j=pre.length+a.length) (v:Value):VO (w.setCell ⟨gj,j,none⟩ v) base T s (some ⟨gj,0,none⟩) n c (pre++(a++v::b)):=by
 have:=h.store j v;subst hj;rw[List.set_append_right _ _ (by omega),Nat.add_sub_cancel_left,List.set_append_right _ _ Ql,Nat.sub_self,List.set_cons_zero] at this
 exact this
theorem yC {w:World} {T:TypeId} {s base n c gj i:Nat} {pre b:List Value} {u0 u1 u2 u3 u4 u5:Value} (h:VO w base T s (some ⟨gj,0,none⟩) n c (pre++(u0::u1::u2::u3::u4::u5::b))) (hj:i=pre.length) (v0 v1 v2 v3 v4 v5:Value) :
  VO ((((((w.setCell ⟨gj,i,none⟩ v0).setCell ⟨gj,i+1,none⟩ v1).setCell ⟨gj,i+2,none⟩ v2).setCell ⟨gj,i+3,none⟩ v3).setCell ⟨gj,i+4,none⟩ v4).setCell ⟨gj,i+5,none⟩ v5) base T s (some ⟨gj,0,none⟩) n c (pre++(v0::v1::v2::v3::v4::v5::b)):=by
 have h0:=gp (a:=[]) (u:=u0) h (j:=i) (by simp[hj]) v0
 have h1:=gp (a:=[v0]) (u:=u1) (b:=u2::u3::u4::u5::b) (by simpa using h0) (j:=i+1) (by simp[hj]) v1
 have h2:=gp (a:=[v0,v1]) (u:=u2) (b:=u3::u4::u5::b) (by simpa using h1) (j:=i+2) (by simp[hj]) v2
 have h3:=gp (a:=[v0,v1,v2]) (u:=u3) (b:=u4::u5::b) (by simpa using h2) (j:=i+3) (by simp[hj]) v3
 have h4:=gp (a:=[v0,v1,v2,v3]) (u:=u4) (b:=u5::b) (by simpa using h3) (j:=i+4) (by simp[hj]) v4
 have h5:=gp (a:=[v0,v1,v2,v3,v4]) (u:=u5) (b:=b) (by simpa using h4) (j:=i+5) (by simp[hj]) v5
 simpa using h5
def FC {α:Type} (E:Elt α) (w:World) (base:Nat) (T:TypeId) (A:Option Addr) (n c:Nat) (css:List (List Value)) (rest:List Value) (xs:List α) (F:List Nat):Prop :=
 VO w base T E.s A n c (css.flatten++rest)/\dJ E w css xs F/\Fr w base F/\∀ g,blk A=some g->g∉F
theorem FC.step {α:Type} {E:Elt α} {w w':World} {base n c:Nat} {T:TypeId} {A:Option Addr} {css:List (List Value)} {xs:List α} {F F1:List Nat} {ys rest:List Value} {x:α} (hv:VO w' base T E.s A n c (css.flatten++(ys++rest))) (he:dJ E w css xs F) (hf:Fr w base F) (hg:∀ g,blk A=some g->g∉F) (hk:∀ g',g'∈F->w'.heap[g']?=w.heap[g']?)
  (hx:E.P w' ys x F1) (hf1:Fr w' base F1) (hd:∀ g',g'∈F1->g'∉F/\blk A≠some g'):FC E w' base T A n c (css++[ys]) rest (xs++[x]) (F++F1) :=
 ⟨by rw[List.flatten_append,List.append_assoc];simpa using hv,(he.au hk).push hx,(hf.au hk).app hf1 (fun g' h1 h2=>(hd g' h2).1 h1),fun g h hm=>(List.mem_append.1 hm).elim (hg g h) (fun h2=>(hd g h2).2 h)⟩
theorem FC.ox {α:Type} {E:Elt α} {w:World} {base n c:Nat} {T:TypeId} {A:Option Addr} {css:List (List Value)} {xs:List α} {F:List Nat} (h:FC E w base T A n c css [] xs F) (hn:xs.length=n):OX E w base T A n c css xs F:=⟨by have:=h.1;rwa [List.append_nil] at this,hn,h.2.1,h.2.2.1,h.2.2.2⟩
def vC (net:List SL) (s:Int) (w:World) (e:Ending) (w':World):Prop:=∃ A c css F,e= .returned (.agg #[.slice A net.length c,.int .i64 s])/\OX (kE smE) w' w.heap.size 99 A net.length c css net F/\Below w.heap.size w w'
def CJ (base:Nat) (w:World) (net:List SL) (css0:List (List Value)) (A:Option Addr) (n c:Nat) (wo:World) (j:Nat):Prop:=(∃ css F,FC (kE smE) wo base 99 A n c css (css0.drop j).flatten (net.take j) F)/\Below w.heap.size w wo
def CI (base gj n c:Nat) (kd:Int) (pre rest:List Value) (ms:List (Mx×Mx)) (cssW:List (List Value)) (A:Option Addr) (m cm:Nat) (wo wi:World) (k:Nat):Prop :=
 VO wi base 99 2 (some ⟨gj,0,none⟩) n c (pre++([.int .i64 kd] ++ .slice A m cm::rest))/\(∃ css F,FC smE wi wo.heap.size 82 A m cm css (cssW.drop k).flatten (ms.take k) F)/\aZ gj wo wi
theorem pf {css:List (List Value)} {j:Nat} {cs:List Value} (h:css[j]?=some cs):(css.drop j).flatten=cs++(css.drop (j+1)).flatten:=by
 obtain⟨h1,h2⟩:=List.getElem?_eq_some_iff.1 h;rw[List.drop_eq_getElem_cons h1,List.flatten_cons,h2]
theorem kU {l:SL} (h:aL l.1 (l.2.map aq)=true):l.2.length<=3:=by
 rcases mV h with⟨_,a,b,e,_⟩|⟨_,e⟩|⟨_,a,b,c,e,_⟩ <;> rw[e] <;> simp
theorem mW {l:SL} (h:aL l.1 (l.2.map aq)=true):∀ p,p∈l.2->okS p=true:=by
 intro p hp;rcases mV h with⟨_,a,b,e,h1,h2,_⟩|⟨_,e⟩|⟨_,a,b,c,e,h1,h2,h3,_⟩ <;> rw[e] at hp <;> simp at hp
 ·rcases hp with rfl|rfl <;> assumption
 ·rcases hp with rfl|rfl|rfl <;> assumption
theorem bg {net:List SL} {s:Int} (hok:bu net=true) {A:Option Addr} {cap:Nat} {F:List Nat} (w:World) (hx:RI (kE smE) w A net.length cap net F) :
  Calls prog 36 #[.agg #[.slice A net.length cap,.int .i64 s]] w (vC net s w):=by
 obtain⟨n,hn⟩:∃ n,n=net.length:=⟨_,rfl⟩;have h4:n<=4:=by rw[hn];exact(du hok).1
 rw[<-hn] at hx ⊢;have HX:=Qh hx;have HOK:=Qh hok;have HN:=Qh hn;clear hx hok hn
 go_enter func36,ntmps36
 go_wp2_with fail
 obtain⟨uw1,hu⟩:∃ u,u=((w.alloc (.cells #[.slice A n cap,.int .i64 s] 25)).alloc (.cells #[.slice none 0 0,.int .i64 0] 25)):=⟨_,rfl⟩;rw[<-hu];have B1:Blk uw1 (w.heap.size) 25 #[.slice A n cap,.int .i64 s]:=Blk.cast hu ((Blk.iA (by first|omega|(simp;done)|(simp;omega))).alloc _)
 have B2:Blk uw1 (w.heap.size+1) 25 #[.slice none 0 0,.int .i64 0]:=Blk.cast hu (Blk.iA (by first|omega|(simp;done)|(simp;omega)))
 have O:Below w.heap.size w uw1:=Below.cast hu ((Qb.alloc (by first|omega|(simp;done)|(simp;omega)) _).alloc (by first|omega|(simp;done)|(simp;omega)) _)
 have mw:=O.size;clear hu;have hub:=B2.lt;refine(uJ w uw1 HX.out O (by omega)).mono ?_
 rintro e w2 ⟨A1,c1,css0,F0,rfl,hvo,hel,hb⟩;have HVO:=Qh hvo;have HEL:=Qh hel;clear hvo hel;replace B1:=B1.aa hb;replace B2:=B2.aa hb;replace O:=O.trans (hb.mono mw);replace mw:=O.size;clear hb;obtain⟨z1,c1_0,f1_0,c1_1,f1_1⟩:=B1.f2;obtain⟨z2,c2_0,f2_0,c2_1,f2_1⟩:=B2.f2;clear z1 c1_0 f1_0 c1_1 f1_1 z2 c2_0 f2_0 c2_1 f2_1;have H0:Hid (CJ uw1.heap.size w net css0 A1 n c1 w2 0):=⟨⟨[],[],by simpa using HVO.out,rfl,Fr.nil _ _,fun _ _ h=>by cases h⟩,O⟩
 have HB1:=Qh B1;have HB2:=Qh B2;clear HVO B1 B2 O mw;go_wp2
 go_loopw [13] (fun i wr=>∃ j:Nat,j<=n/\i= .int .i64 j/\Hid (CJ uw1.heap.size w net css0 A1 n c1 wr j)/\Hid (Blk wr w.heap.size 25 #[.slice A n cap,.int .i64 s])/\Hid (Blk wr (w.heap.size+1) 25 #[.slice none 0 0,.int .i64 0])) (fun i _=>n-(intOf i).toNat)
 case atStart=>exact⟨0,Nat.zero_le _,rfl,H0,HB1,HB2⟩
 case round =>
 clear H0 HB1 HB2;obtain⟨j,hj,rfl,hcj,HB1,HB2⟩:=hrel;obtain⟨wo,rfl⟩:∃ u:World,u=wr:=⟨_,rfl⟩;obtain⟨⟨css,FO,hF⟩,hob⟩:=hcj.out;have HOB:=Qh hob;clear hcj hob
 by_cases hlt:j<n
 ·obtain⟨l,hlj,hmem⟩:=aH (xs:=net) (j:=j) (by have:=HN.out;omega)
  obtain⟨cs,Fl,hcs,hFl,hP⟩:=HEL.out.at j l hlj;obtain⟨Aw,cw,rfl,hrw⟩:=hP;have hm3:=kU ((du HOK.out).2 l hmem);have hokm:=mW ((du HOK.out).2 l hmem);obtain⟨m,hm⟩:∃ m,m=l.2.length:=⟨_,rfl⟩;rw[<-hm] at hrw hm3;rw[pf hcs,<-hm] at hF;obtain⟨g0,rfl,hg0,hg1⟩:=hF.1.pos (by omega)
  have hpl:css.flatten.length=j*2:=by
   rw[dS hF.2.1,List.length_take,Nat.min_eq_left (by have:=HN.out;omega)]
   rfl
  have hwo:w.heap.size<=wo.heap.size:=HOB.out.size;obtain⟨pre,hpre⟩:∃ pre,pre=css.flatten:=⟨_,rfl⟩;obtain⟨rest,hrest⟩:∃ rest,rest=(css0.drop (j+1)).flatten:=⟨_,rfl⟩;have hv:=hF.1;rw[<-hpre,<-hrest] at hv;rw[<-hpre] at hpl;have HPL:=Qh hpl;have HPRE:=Qh hpre;have HREST:=Qh hrest;have HFO:=Qh hF;have HV:=Qh hv;have HRW:=Qh hrw;have HM:=Qh hm;have HLJ:=Qh hlj;have HOKM:=Qh hokm;have n1:=hv.gu HB1.out (by decide)
  have n2:=hv.gu HB2.out (by decide)
  have hn1:w.heap.size≠g0:=fun e=>n1 (by rw[e];rfl)
  have hn2:w.heap.size+1≠g0:=fun e=>n2 (by rw[e];rfl)
  have d0:wo.cell? ⟨g0,j*2,none⟩=some (.int .i64 l.1):=eF (a:=[]) hv (by rw[HPL.out];rfl)
  have d1:wo.cell? ⟨g0,j*2+1,none⟩=some (.slice Aw m cw):=eF (a:=[.int .i64 l.1]) hv (by rw[HPL.out];rfl)
  have k0:(0:Int)<=(j:Int):=by omega
  have k1:(j:Int)<(n:Int):=by omega
  clear hF hcs hFl hlj hmem hm hrw hpl hpre hrest hv hokm n1 n2
  go_wp2_with fail
  obtain⟨u,hu⟩:∃ u,u=wo.alloc (.cells #[.int .i64 l.1,.slice Aw m cw] 99):=⟨_,rfl⟩;rw[<-hu];have hbu:Below wo.heap.size wo u:=Below.cast hu (Qb.alloc Ql _);clear hu;refine(uK w u HRW.out (HOB.out.trans (hbu.mono hwo)) (by omega)).mono ?_
  rintro e w5 ⟨A2,c2,cssW,FW,rfl,hvo2,hel2,hb2⟩;have hb5:Below wo.heap.size wo w5:=hbu.trans (hb2.mono hbu.size);have HEL2:=Qh hel2;have hgl:g0<wo.heap.size:=hg1;have e0:w5.cell? ⟨g0,j*2+1,none⟩=some (.slice Aw m cw):=(hb5.cell (p:=⟨g0,j*2+1,none⟩) hgl).trans d1;have e1:w5.frozen? ⟨g0,j*2+1,none⟩=false:=(HV.out.below hb5).frozen _;have hv6:VO (w5.setCell ⟨g0,j*2+1,none⟩ (.slice A2 m c2)) uw1.heap.size 99 2 (some ⟨g0,0,none⟩) n c1 (pre++([.int .i64 l.1] ++ .slice A2 m c2::rest)):=gp (a:=[.int .i64 l.1]) (HV.out.below hb5) (by rw[HPL.out];rfl) _
  have e2:(w5.setCell ⟨g0,j*2+1,none⟩ (.slice A2 m c2)).cell? ⟨g0,j*2+1,none⟩=some (.slice A2 m c2):=eF (a:=[.int .i64 l.1]) hv6 (by rw[HPL.out];rfl)
  have J0:Hid (CI uw1.heap.size g0 n c1 l.1 pre rest l.2 cssW A2 m c2 wo (w5.setCell ⟨g0,j*2+1,none⟩ (.slice A2 m c2)) 0):=⟨hv6,⟨[],[],by simpa using (hvo2.mono hbu.size).lX (by dsimp only;omega) _,rfl,Fr.nil _ _,fun _ _ h=>by cases h⟩,((aZ.refl g0 wo).below hb5).setCell (.inl rfl) _⟩
  have zg5:g0<w5.heap.size:=Nat.lt_of_lt_of_le hgl hb5.size;clear hvo2 hel2 hb2 hbu hb5 hv6 d0 d1;go_wp2;clear e0 e1 e2 zg5
  go_loopw [31] (fun i wr=>∃ k:Nat,k<=m/\i= .int .i64 k/\Hid (CI uw1.heap.size g0 n c1 l.1 pre rest l.2 cssW A2 m c2 wo wr k)) (fun i _=>m-(intOf i).toNat)
  case atStart=>exact⟨0,Nat.zero_le _,rfl,J0⟩
  case round =>
  clear J0;obtain⟨k,hk,rfl,hci⟩:=hrel;obtain⟨hV,⟨cssI,FI,hFI⟩,hOn⟩:=hci.out;have hsz:wo.heap.size<=wr.heap.size:=hOn.size;have HBW:Hid (Below w.heap.size w wr):=HOB.out.trans (hOn.toBelow (by omega) (by omega))
  have cj:wr.cell? ⟨g0,j*2+1,none⟩=some (.slice A2 m c2):=eF (a:=[.int .i64 l.1]) hV (by rw[HPL.out];rfl)
  have zgl:g0<wr.heap.size:=by omega
  have HV2:=Qh hV;have HON:=Qh hOn;clear hV hOn hci
  by_cases hkm:k<m
  ·obtain⟨p,hpk,hpm⟩:=aH (xs:=l.2) (j:=k) (by have:=HM.out;omega)
   obtain⟨cs,Fp,hcs,hFp,P1,q1,P2,q2,Fa,Fb,rfl,hp1,hp2,_⟩:=HEL2.out.at k p hpk;have hpo:=HOKM.out p hpm;have HMV:=Qh (And.intro (ai hpo).1 (ai hpo).2.1);have hRS:=RS.mk (p:=p) hp1.1 hp1.2.1 hp1.2.2.1 hp2.1 hp2.2.1 hp2.2.2.1;have HRS:=Qh (hRS.below HBW.out);rw[pf hcs] at hFI;obtain⟨h2,rfl,hh0,hh1⟩:=hFI.1.pos (by omega)
   have hil:cssI.flatten.length=k*6:=by
    rw[dS hFI.2.1,List.length_take,Nat.min_eq_left (by have:=HM.out;omega)]
    rfl
   have HIL:=Qh hil;have hvi:=hFI.1;have a0:wr.cell? ⟨h2,k*6,none⟩=some (.int .i64 p.1.r):=eF (a:=[]) hvi (by simp[HIL.out])
   have a1:wr.cell? ⟨h2,k*6+1,none⟩=some (.int .i64 p.1.c):=eF (a:=[.int .i64 p.1.r]) hvi (by simp[HIL.out])
   have a2:wr.cell? ⟨h2,k*6+2,none⟩=some (.slice P1 p.1.v.length q1):=eF (a:=[.int .i64 p.1.r,.int .i64 p.1.c]) hvi (by simp[HIL.out])
   have a3:wr.cell? ⟨h2,k*6+3,none⟩=some (.int .i64 p.2.r):=eF (a:=[.int .i64 p.1.r,.int .i64 p.1.c,.slice P1 p.1.v.length q1]) hvi (by simp[HIL.out])
   have a4:wr.cell? ⟨h2,k*6+4,none⟩=some (.int .i64 p.2.c):=eF (a:=[.int .i64 p.1.r,.int .i64 p.1.c,.slice P1 p.1.v.length q1,.int .i64 p.2.r]) hvi (by simp[HIL.out])
   have a5:wr.cell? ⟨h2,k*6+5,none⟩=some (.slice P2 p.2.v.length q2):=eF (a:=[.int .i64 p.1.r,.int .i64 p.1.c,.slice P1 p.1.v.length q1,.int .i64 p.2.r,.int .i64 p.2.c]) hvi (by simp[HIL.out])
   have HVI0:=Qh hvi;have HFI:=Qh hFI;have HPK:=Qh hpk;have j0:(0:Int)<=(k:Int):=by omega
   have j1:(k:Int)<(m:Int):=by omega
   clear hcs hFp hp1 hp2 hpo hRS hFI hil hvi hpk hpm
   go_wp2_with fail
   obtain⟨uw61,hu⟩:∃ u,u=(wr.alloc (.cells #[.int .i64 p.1.r,.int .i64 p.1.c,.slice P1 p.1.v.length q1,.int .i64 p.2.r,.int .i64 p.2.c,.slice P2 p.2.v.length q2] 82)):=⟨_,rfl⟩;rw[<-hu];have B31:Blk uw61 (wr.heap.size) 82 #[.int .i64 p.1.r,.int .i64 p.1.c,.slice P1 p.1.v.length q1,.int .i64 p.2.r,.int .i64 p.2.c,.slice P2 p.2.v.length q2]:=Blk.cast hu (Blk.iA (by first|omega|(simp;done)|(simp;omega)))
   have O:Below wr.heap.size wr uw61:=Below.cast hu (Qb.alloc (by first|omega|(simp;done)|(simp;omega)) _)
   have mw:=O.size;have zg2:=Nat.lt_of_lt_of_le zgl O.size;have cj2:=(O.cell (p:=⟨g0,j*2+1,none⟩) zgl).trans cj;clear hu;obtain⟨S,KP,KQ,KA,KU,KC⟩:=BK (u:=uw61) [wr.heap.size,g0] (by intro i hi;simp only[List.mem_cons,List.not_mem_nil,or_false] at hi;rcases hi with rfl|rfl;exact B31.lt;exact zg2)
   have g31_0:∀ zw:Wd S,zw.w.cell? ⟨wr.heap.size,0,none⟩=some (.int .i64 p.1.r):=fun zw=>(KC.out zw _ (by simp) _).trans (B31.cell 0)
   have g31_1:∀ zw:Wd S,zw.w.cell? ⟨wr.heap.size,1,none⟩=some (.int .i64 p.1.c):=fun zw=>(KC.out zw _ (by simp) _).trans (B31.cell 1)
   have g31_2:∀ zw:Wd S,zw.w.cell? ⟨wr.heap.size,2,none⟩=some (.slice P1 p.1.v.length q1):=fun zw=>(KC.out zw _ (by simp) _).trans (B31.cell 2)
   have g31_3:∀ zw:Wd S,zw.w.cell? ⟨wr.heap.size,3,none⟩=some (.int .i64 p.2.r):=fun zw=>(KC.out zw _ (by simp) _).trans (B31.cell 3)
   have g31_4:∀ zw:Wd S,zw.w.cell? ⟨wr.heap.size,4,none⟩=some (.int .i64 p.2.c):=fun zw=>(KC.out zw _ (by simp) _).trans (B31.cell 4)
   have g31_5:∀ zw:Wd S,zw.w.cell? ⟨wr.heap.size,5,none⟩=some (.slice P2 p.2.v.length q2):=fun zw=>(KC.out zw _ (by simp) _).trans (B31.cell 5)
   have gg0:∀ zw:Wd S,zw.w.cell? ⟨g0,j*2+1,none⟩=some (.slice (some ⟨h2,0,none⟩) m c2):=fun zw=>(KC.out zw _ (by simp) _).trans cj2
   refine dZ noX true S (by kernel_rfl) (by kernel_rfl) (fun _=>by kernel_rfl) (KP.out _ Qb.drew) ?_
   intro hne;have hb:=(Below.refl uw61.heap.size uw61).drew;obtain⟨w62,hd⟩:∃ u,u=uw61.drew:=⟨_,rfl⟩;rw[<-hd] at hb ⊢
   (try simp only[Nat.add_assoc,Nat.reduceAdd])
   clear hd;have hS:=Qh (KP.out _ hb);replace B31:=B31.aa hb;replace O:=O.trans (hb.mono mw);replace mw:=O.size;clear hb
   repeat (first|(refine aF (by rfl) (by rfl) ?_;intro K hK;go_big_quiet_op;go_big_quiet_on)|(refine aG (by rfl) ?_))
   refine bj (by rfl) (by rfl) (fun K hK=>?_)
   unfold Oper.gives
   go_simp
   refine(tZ (q:=p) (f:=63) (caps:=#[]) w62 (RS.below HRS.out O) (fun _ _=>by kernel_rfl) ⟨fun W v _ hv=>ep HMV.out.1 W hv,fun W v _ hv=>ep HMV.out.2 W hv⟩).mono ?_
   rintro e w63 ⟨X,Y,x1,y1,rfl,f1,f2,f3,hb⟩;replace hS:=Qh (KU _ _ (fun _=>False) (UpL.eW hb) (fun _ _ e=>e) hS.out)
   refine⟨_,rfl,hK _ _ ⟨⟨_,hS.out⟩,rfl⟩ ?_⟩;clear hK K;have G1:=f1.mono (base':=wr.heap.size) mw;have G2:=f2.mono (base':=wr.heap.size) mw;replace B31:=B31.aa hb;replace O:=O.trans (hb.mono mw);replace mw:=O.size;clear f1 f2;clear hb
   repeat (first|(refine aF (by rfl) (by rfl) ?_;intro K hK;go_big_quiet_op;go_big_quiet_on)|(refine aG (by rfl) ?_))
   have HVI:=HVI0.out.below O;have s0:w63.cell? ⟨h2,k*6,none⟩=some (.int .i64 p.1.r):=by first|exact eF (a:=[]) HVI (by simp[HIL.out])
   have s1:w63.cell? ⟨h2,k*6+1,none⟩=some (.int .i64 p.1.c):=by first|exact eF (a:=[.int .i64 p.1.r]) HVI (by simp[HIL.out])
   have s2:w63.cell? ⟨h2,k*6+2,none⟩=some (.slice P1 p.1.v.length q1):=by first|exact eF (a:=[.int .i64 p.1.r,.int .i64 p.1.c]) HVI (by simp[HIL.out])
   have s3:w63.cell? ⟨h2,k*6+3,none⟩=some (.int .i64 p.2.r):=by first|exact eF (a:=[.int .i64 p.1.r,.int .i64 p.1.c,.slice P1 p.1.v.length q1]) HVI (by simp[HIL.out])
   have s4:w63.cell? ⟨h2,k*6+4,none⟩=some (.int .i64 p.2.c):=by first|exact eF (a:=[.int .i64 p.1.r,.int .i64 p.1.c,.slice P1 p.1.v.length q1,.int .i64 p.2.r]) HVI (by simp[HIL.out])
   have s5:w63.cell? ⟨h2,k*6+5,none⟩=some (.slice P2 p.2.v.length q2):=by first|exact eF (a:=[.int .i64 p.1.r,.int .i64 p.1.c,.slice P1 p.1.v.length q1,.int .i64 p.2.r,.int .i64 p.2.c]) HVI (by simp[HIL.out])
   have t0:=HVI.frozen (k*6);have t1:=HVI.frozen (k*6+1);have t2:=HVI.frozen (k*6+2);have t3:=HVI.frozen (k*6+3);have t4:=HVI.frozen (k*6+4);have t5:=HVI.frozen (k*6+5);refine aV rfl (by rfl) (by rfl) (fun K hK=>?_)
   unfold Oper.gives
   go_simp
   refine hK _ _ ?_;clear hK K s0 t0 s1 t1 s2 t2 s3 t3 s4 t4 s5 t5
   repeat (first|(refine aF (by rfl) (by rfl) ?_;intro K hK;go_big_quiet_op;go_big_quiet_on)|(refine aG (by rfl) ?_))
   refine aI ?_;clear hne KP KQ KA KU KC hS g31_0 g31_1 g31_2 g31_3 g31_4 g31_5;obtain⟨uZ,hZ⟩:∃ u,u=((((((w63.setCell ⟨h2,k*6,none⟩ (.int .i64 p.1.r)).setCell ⟨h2,k*6+1,none⟩ (.int .i64 p.1.c)).setCell ⟨h2,k*6+2,none⟩ (.slice X p.1.v.length x1)).setCell ⟨h2,k*6+3,none⟩ (.int .i64 p.2.r)).setCell ⟨h2,k*6+4,none⟩ (.int .i64 p.2.c)).setCell ⟨h2,k*6+5,none⟩ (.slice Y p.2.v.length y1)):=⟨_,rfl⟩;rw[<-hZ];have hhb:uw1.heap.size<=h2:=by omega
   have hhg:g0≠h2:=by omega
   have V6:VO uZ wo.heap.size 82 6 (some ⟨h2,0,none⟩) m c2 (cssI.flatten++([.int .i64 p.1.r,.int .i64 p.1.c,.slice X p.1.v.length x1,.int .i64 p.2.r,.int .i64 p.2.c,.slice Y p.2.v.length y1]++(cssW.drop (k+1)).flatten)):=by rw[hZ];exact yC (HVI0.out.below O) HIL.out.symm _ _ _ _ _ _
   have VO6:VO uZ uw1.heap.size 99 2 (some ⟨g0,0,none⟩) n c1 (pre++([.int .i64 l.1] ++ .slice (some ⟨h2,0,none⟩) m c2::rest)):=by
    rw[hZ];have:=HV2.out.below O
    exact(((((this.far (by simpa [blk] using hhg) _).far (by simpa [blk] using hhg) _).far (by simpa [blk] using hhg) _).far (by simpa [blk] using hhg) _).far (by simpa [blk] using hhg) _).far (by simpa [blk] using hhg) _
   have On6:aZ h2 w63 uZ:=by rw[hZ];exact(aZ.refl _ _).s1.s1.s1.s1.s1.s1
   have ON6:aZ g0 wo uZ:=by
    rw[hZ]
    exact((((((HON.out.below O).setCell (.inr hh0) _).setCell (.inr hh0) _).setCell (.inr hh0) _).setCell (.inr hh0) _).setCell (.inr hh0) _).setCell (.inr hh0) _
   have kg1:∀ g',g'∈fpI X p.1.v.length++fpI Y p.2.v.length->uZ.heap[g']?=w63.heap[g']?:=fun g' hg'=>On6.block g' (by rcases List.mem_append.1 hg' with h|h;exact(G1.aj _ (bz h).2).2;exact(G2.aj _ (bz h).2).2) (fun e=>by
    have e':h2=g':=by first|(injection e with e1;exact e1)|(injection e with e1;exact e1.symm)
    rcases List.mem_append.1 hg' with h|h
    ·have:=(G1.aj _ (bz h).2).1;omega
    ·have:=(G2.aj _ (bz h).2).1;omega)
   have hQ:smE.P uZ [.int .i64 p.1.r,.int .i64 p.1.c,.slice X p.1.v.length x1,.int .i64 p.2.r,.int .i64 p.2.c,.slice Y p.2.v.length y1] p (fpI X p.1.v.length++fpI Y p.2.v.length):=smE.au _ _ _ _ _ ⟨X,x1,Y,y1,_,_,rfl,MF.aB G1,MF.aB G2,rfl⟩ kg1;have hFR:Fr uZ wr.heap.size (fpI X p.1.v.length++fpI Y p.2.v.length):=Fr.au (Fr.app (ek G1) (ek G2) (fun g h1 h2=>f3 g (bz h1).2 (bz h2).2)) kg1
   have hst:=FC.step (E:=smE) (css:=cssI) (A:=some ⟨h2,0,none⟩) V6 HFI.out.2.1 HFI.out.2.2.1 HFI.out.2.2.2 (fun g' hg'=>(On6.block g' (Nat.lt_of_lt_of_le (HFI.out.2.1.lt g' hg') O.size) (fun e=>HFI.out.2.2.2 g' (by first|exact e|exact e.symm) hg')).trans (O.block g' (HFI.out.2.1.lt g' hg'))) hQ (hFR.mono hsz)
    (fun g' hg'=>⟨fun h=>by have:=HFI.out.2.1.lt g' h;have:=(hFR.2 g' hg').1;omega,fun h=>by have:=(hFR.2 g' hg').1;have e:h2=g':=(by simpa [blk] using h);omega⟩)
   rw[<-aW HPK.out] at hst;have KN:Hid (CI uw1.heap.size g0 n c1 l.1 pre rest l.2 cssW (some ⟨h2,0,none⟩) m c2 wo uZ (k+1)):=⟨VO6,⟨_,_,hst⟩,ON6⟩;clear hZ V6 VO6 On6 ON6 kg1 hQ hFR hst;go_wp2
   go_roundw
   case rel=>exact⟨k+1,by omega,by go_num,KN⟩
   case measure=>simp[intOf];omega
  ·obtain rfl:k=m:=by omega
   have hcl:cssW.drop k=[]:=List.drop_eq_nil_of_le (by rw[HEL2.out.length,HM.out];exact Nat.le_refl _)
   rw[hcl,List.flatten_nil,List.take_of_length_le (by rw[HM.out];exact Nat.le_refl _)] at hFI
   obtain⟨F2,hr2,hf2⟩:=(FC.ox hFI (HM.out ▸ rfl)).ri;have hQ:(kE smE).P wr [.int .i64 l.1,.slice A2 k c2] l F2:=⟨A2,c2,by rw[HM.out],by rw[<-HM.out];exact hr2⟩
   have K1:Hid (CJ uw1.heap.size w net css0 (some ⟨g0,0,none⟩) n c1 wr (j+1)):=by
    have hF:=HFO.out;have hfO:∀ g',g'∈FO->wr.heap[g']?=wo.heap[g']?:=fun g' hg'=>HON.out.block g' (hF.2.1.lt g' hg') (fun e=>hF.2.2.2 g' (by first|exact e|exact e.symm) hg')
    have hv5:=HV2.out;rw[HPRE.out,HREST.out] at hv5;have hst:=FC.step (E:=kE smE) (css:=css) (A:=some ⟨g0,0,none⟩) (ys:=[.int .i64 l.1,.slice A2 k c2]) hv5 hF.2.1 hF.2.2.1 hF.2.2.2 hfO hQ (hf2.mono (by omega))
     (fun g' hg'=>⟨fun h=>by have:=hF.2.1.lt g' h;have:=(hf2.2 g' hg').1;omega,fun h=>by have:=(hf2.2 g' hg').1;have e:g0=g':=(by simpa [blk] using h);omega⟩)
    rw[<-aW HLJ.out] at hst
    exact⟨⟨_,_,hst⟩,HBW.out⟩
   have K2:=Qh (HB1.out.only HON.out hn1);have K3:=Qh (HB2.out.only HON.out hn2);clear hcl hFI hr2 hf2 hQ;go_wp2
   go_roundw
   case rel=>exact⟨j+1,by omega,by go_num,K1,K2,K3⟩
   case measure=>simp[intOf];omega
 ·obtain rfl:j=n:=by omega
  have hcl:css0.drop j=[]:=List.drop_eq_nil_of_le (by rw[HEL.out.length,HN.out];exact Nat.le_refl _)
  rw[hcl,List.flatten_nil,List.take_of_length_le (by rw[HN.out];exact Nat.le_refl _)] at hF
  have HOX:=Qh (FC.ox hF (HN.out ▸ rfl));have B1:=HB1.out;have B2:=HB2.out;have O:=HOB.out;have mw:=O.size;clear hcl hF HB1 HB2 HOB;obtain⟨z1,c1_0,f1_0,c1_1,f1_1⟩:=B1.f2;obtain⟨z2,c2_0,f2_0,c2_1,f2_1⟩:=B2.f2;go_wp2;have q1:w.heap.size<=w.heap.size+1:=by omega
  exact bodyPost_ret (v:= .agg #[.slice A1 j c1,.int .i64 s]) (by simp[results,results36,go_sem,z1,c1_0,f1_0,c1_1,f1_1,z2,c2_0,f2_0,c2_1,f2_1,(by omega:¬w.heap.size=w.heap.size+1),(by omega:¬w.heap.size+1=w.heap.size)]) rfl ⟨A1,c1,css,FO,by rw[<-HN.out],by rw[<-HN.out];exact OX.mono ((HOX.out.lX (by dsimp only;omega) _).lX (by dsimp only;omega) _) (by omega),((O.setCell q1 _).setCell q1 _)⟩
end
def ER (k:IntKind) (w:World) (a:Option Addr) (len cap:Nat) (zs:List Int):Prop :=
 (a=none/\len=0/\cap=0/\zs=[]) \/
 ∃ x,a=some x/\len<=cap/\cap<=maxLen/\zs.length=cap/\(∀ i,i<zs.length->w.cell? (x.add i)=some (.int k (zs.getD i 0)))/\∀ n∈zs,(Lit.int k n).wf=true
theorem wf_u8 {n:Int} (h:(Lit.int .u8 n).wf=true):0<=n/\n<=255:=by
 simp[Lit.wf,IntKind.min,IntKind.max,IntKind.signed,IntKind.bits] at h
 omega
theorem El {w:World} {a:Option Addr} {len cap:Nat} {zs:List Int} (h:ER .u8 w a len cap zs):len<=cap/\cap<=maxLen/\Bytes w w.heap.size a len/\(a=none->cap=0):=by
 rcases h with⟨rfl,rfl,rfl,rfl⟩|⟨x,rfl,hl,hm,hz,hc,hw⟩
 ·exact⟨Nat.le_refl _,by unfold maxLen;omega,fun h=>absurd h (by omega),fun _=>rfl⟩
 ·refine⟨hl,hm,fun h0=>?_,fun h=>by cases h⟩
  obtain⟨b,off,spot⟩:=x;have h1:=hc 0 (by omega)
  have hs:spot=none:=by simpa [Addr.add] using World.cell?_spot h1
  subst hs;have hb:=World.block_lt_of_cell? w _ h1;refine⟨b,off,rfl,by simpa [Addr.add] using hb,fun i hi=>?_⟩
  have h2:=hc i (by omega)
  have hm:zs.getD i 0∈zs:=by
   rw[List.getD_eq_getElem?_getD,List.getElem?_eq_getElem (by omega)]
   exact List.getElem_mem _
  have hw:=wf_u8 (hw _ hm);refine⟨zs.getD i 0,hw.1,hw.2,?_⟩;rw[<-h2];unfold Addr.add
  by_cases hi0:i=0
  ·subst hi0;simp
  ·simp[hi0]
section
attribute [local go_sem] af ah ae
theorem j9 {o:Oper} {a:Act} {w:World} {R:Value->World->Prop} (s x:Operand) (t:TypeId) (ho:o.op= .call { callee:= .builtin .append,args:=#[s,x],argTypes:=#[t,t] })
  (base:Nat) (e:TypeId) (i:TypeInfo) (z:Value) (size bytes:Nat) (ht:prog.underlying t=some (.slice e)) (hi:prog.info? e=some i) (hz:i.zero=some z)
  (hsize:i.size=size) (hby:i.bytes=bytes) (hzs:z.cells.size=size) (hsz:0<size)
  (v:Value) (n:Nat) (xs:List Value) (hs:a.eval s=v) (hown:w.ownsRow base e size v n xs)
  (ad:Addr) (m c:Nat) (news:List Value) (hx:a.eval x= .slice (some ad) m c) (hl:news.length=m*size) (hnews:∀ j u,news[j]?=some u->w.cell? (ad.add j)=some u) (h1:∀ u∈news,u.oneCell'=true)
  (hm:0<m) (h63:n+m<=maxLen) (hbytes:(n+m)*bytes<=140737488355328) (hbase:base<=w.heap.size) (H:Nat) (hH:w.heap.size=H)
  (h:∀ g cap w',w'.ownsRow base e size (.slice (some ⟨g,0,none⟩) (n+m) cap) (n+m) (xs++news)->w.grownBy w' v.ownBlock->(v.ownBlock=some g\/g=H)->g<w'.heap.size->R (.slice (some ⟨g,0,none⟩) (n+m) cap) w'):Oper.gives prog o a w R:=by
 obtain⟨g,cap,w',hr,h2,h3,h4,h5⟩:=run_append_lies (P:=prog) w t o.type base e i z size bytes ht hi hz hsize hby hzs hsz v n xs hown ad m c news hl hnews h1 hm h63 hbytes hbase H hH;unfold Oper.gives execOp;simp only[ho,resolve,invoke,builtin,Sem.run_bind,Sem.run_pure,Result.andThen_ok,List.map_toArray,List.map_cons,List.map_nil,hs,hx,hr]
 exact h g cap w' h2 h3 h4 h5
def PI (wo:World) (gj:Nat) (kd:Int) (ms:List Mx) (s:Int) (wi:World) (j:Nat) (A:Option Addr) (c:Nat):Prop :=
 Blk wi gj 99 #[.int .i64 kd,.slice A j c]/\(∃ css F,OX smE wi (gj+1) 82 A j c css (aP (ms.take j) s).1 F)/\Below wo.heap.size wo wi
theorem PI.next {wo wi w4 w1:World} {kd s:Int} {ms:List Mx} {j c g cap gj:Nat} {A:Option Addr} {m:Mx} {o:Obj} {css:List (List Value)} {F G:List Nat} {ys:List Value} (hwg:wo.heap.size<=gj) (h1:Blk wi gj 99 #[.int .i64 kd,.slice A j c]) (hox:OX smE wi (gj+1) 82 A j c css (aP (ms.take j) s).1 F) (h3:Below wo.heap.size wo wi) (hb:Below wi.heap.size wi w4)
  (hm:ms[j]?=some m) (hx:smE.P w4 ys (cH m (aP (ms.take j) s).2).1 G) (hf:Fr w4 wi.heap.size G)
  (hown:w1.ownsRow (gj+1) 82 smE.s (.slice (some ⟨g,0,none⟩) (j+1) cap) (j+1) (css.flatten++ys))
  (hg:(w4.alloc o).grownBy w1 (Value.slice A j c).ownBlock) (hat:(Value.slice A j c).ownBlock=some g\/g=w4.heap.size+1) :
  Blk w1 gj 99 #[.int .i64 kd,.slice A j c]/\PI wo gj kd ms s (w1.setCell ⟨gj,1,none⟩ (.slice (some ⟨g,0,none⟩) (j+1) cap)) (j+1) (some ⟨g,0,none⟩) cap:=by
 have hwi:gj<wi.heap.size:=h1.lt;have hsz:=hb.size;have hd:∀ g',g'∈G->g'∉F/\blk A≠some g':=fun g' hg'=>by
  have:=(hf.2 g' hg').1
  exact⟨fun h=>by have:=hox.lt g' h;omega,fun h=>by have:=(hox.aj g' h).2;omega⟩
 have h3':Below wo.heap.size wo w4:=h3.trans (hb.mono (by omega))
 obtain⟨k1,k2,k3⟩:=OX.push (hox.below hb) hx (hf.mono (by omega)) hd h3' (by omega) (by omega) hown hg hat
 have k0:=(h1.aa hb).bR k3 (hox.1.gu h1 (by decide))
 have e:(aP (ms.take (j+1)) s).1=(aP (ms.take j) s).1++[(cH m (aP (ms.take j) s).2).1]:=by rw[aW hm,fF]
 rw[<-e] at k1
 exact⟨k0,k0.dc 1 _,⟨_,_,k1.lX (by dsimp only;omega) _⟩,k2.setCell (by dsimp only;omega) _⟩
theorem PI.BS {ms:List Mx} {j:Nat} {m:Mx} {s:Int} (hm:ms[j]?=some m):(aP (ms.take (j+1)) s).2=(cH m (aP (ms.take j) s).2).2:=by rw[aW hm,fF]
theorem fE:∀ {ms:List Mx} {s:Int},sdB s=true->(∀ m,m∈ms->mvB m=true)->sdB (aP ms s).2=true
 | [],_,hs,_=>hs
 | m::ms,s,hs,h=>fE (ms:=ms) (by rw[lS (h m (List.mem_cons_self ..)) hs];exact cS hs _) (fun x hx=>h x (List.mem_cons_of_mem _ hx))
def Cw (kd:Int) (ms:List Mx) (s:Int) (w:World) (e:Ending) (w':World):Prop:=∃ g A c css F,e= .returned (.tuple #[.slice (some ⟨g,0,none⟩) 1 1,.int .i64 (aP ms s).2])/\Blk w' g 99 #[.int .i64 kd,.slice A ms.length c]/\OX smE w' (g+1) 82 A ms.length c css (aP ms s).1 F/\w.heap.size<=g/\Below w.heap.size w w'
theorem lD {k:Int} {ms:List Mx} (h:aL k ms=true):∀ m,m∈ms->mvB m=true:=by
 intro m hm;rcases eM (l:=(k,ms)) h with⟨_,a,b,e,h1,h2,_⟩|⟨_,e⟩|⟨_,a,b,c,e,h1,h2,h3,_⟩ <;> dsimp only at e <;> subst e
 ·simp at hm;rcases hm with rfl|rfl <;> assumption
 ·cases hm
 ·simp at hm;rcases hm with rfl|rfl|rfl <;> assumption
theorem DI {kd s:Int} {ms:List Mx} (hl:aL kd ms=true) (hs:sdB s=true) {A:Option Addr} {cap:Nat} {F:List Nat} (w:World) (hx:RI (kE mxE) w A 1 cap [(kd,ms)] F) :
  Calls prog 124 #[.slice A 1 cap,.int .i64 s] w (Cw kd ms s w):=by
 obtain⟨i0,hi,hz0,hz1,hz2⟩:=info_parts lq;have hmv:=lD hl;have hm25:∀ m,m∈ms->mS m:=fun m hm=>by have:=(dy (hmv m hm)).2;unfold mS;omega
 obtain⟨n,hn⟩:∃ n,n=ms.length:=⟨_,rfl⟩;have h3:n<=3:=by rw[hn];exact ud (l:=(kd,ms)) hl
 have HNV:Hid (tb [(kd,ms)]):=⟨by simp,fun l h=>by simp at h;subst h;exact hl⟩
 have HMS:Hid (∀ l,l∈[(kd,ms)]->∀ m,m∈l.2->mS m):=fun l h=>by simp at h;subst h;exact hm25
 obtain⟨b,off,cs,Fx,rfl,hbl,hc,_,Aw,cw,rfl,hrw⟩:=hx.cells (i:=0) (x:=(kd,ms)) rfl 2 rfl;have d0:w.cell? ⟨b,off,none⟩=some (.int .i64 kd):=by have:=hc 0 (by omega);simpa using this
 have d1:w.cell? ⟨b,off+1,none⟩=some (.slice Aw n cw):=by have:=hc 1 (by omega);rw[hn];simpa using this
 have HRW:Hid (RI mxE w Aw n cw ms Fx):=by rw[hn];exact hrw
 have HXN:=Qh hx;have HMVS:=Qh hmv;have HS:=Qh hs;have HN:=Qh hn;have hmo:(Obj.cells (madeCells ZL (1*ZL.size)) 99)= .cells #[.int .i64 0,.slice none 0 0] 99:=by kernel_rfl
 have hmk:∀ W:World,(Instr.makeSlice 23 (.int .i64 1) (.int .i64 1)).run prog W= .ok (.slice (some ⟨W.heap.size,0,none⟩) 1 1) (W.alloc (.cells #[.int .i64 0,.slice none 0 0] 99)):=fun W=>by have h:=zf 1 (by omega) W;rw[hmo] at h;exact h
 clear hx hc hmv hm25 hl hs hn hrw hmo
 go_enter func124,ntmps124
 go_wp2_with fail
 refine(hM HNV.out w HXN.out HMS.out).mono ?_;rintro e w2 ⟨g,vs,rfl,-,-,hb⟩;have HB:=Qh hb;have e0:=(hb.cell (p:=⟨b,off,none⟩) hbl).trans d0;have e1:=(hb.cell (p:=⟨b,off+1,none⟩) hbl).trans d1;have zb:=Nat.lt_of_lt_of_le hbl hb.size;clear hb
 go_wp2_with fail
 refine Qc (aU (dH HS.out) w2) ?_;go_wp2;refine wp_loop_rounds 2 ?_;rw[rounds_succ];go_wp2;have J0:Hid (PI w2 w2.heap.size kd ms s ((w2.alloc (.cells #[.int .i64 kd,.slice none 0 0] 99)).alloc (.cells #[.int .i64 kd,.slice Aw n cw] 80)) 0 none 0):=⟨(Blk.new _ _ _).alloc _,⟨[],[],OX.nil _ _ _⟩,(Qb.alloc Ql _).alloc (by simp) _⟩
 go_loopw [1,45] (fun sd i wr=>∃ (j c':Nat) (A':Option Addr) (sj:Int),j<=n/\sd= .int .i64 sj/\i= .int .i64 j/\Hid (sj=(aP (ms.take j) s).2)/\Hid (PI w2 w2.heap.size kd ms s wr j A' c')) (fun _ i _=>n-(intOf i).toNat)
 case atStart=>exact⟨0,0,none,s,Nat.zero_le _,rfl,rfl,rfl,J0⟩
 case round =>
 clear J0;obtain⟨j,cI,AI,sj,hj,rfl,rfl,HSJ,hpi⟩:=hrel;obtain⟨hbj,⟨cssI,FI,hox⟩,hob⟩:=hpi.out;have BJ:=hbj;have HBJ:=Qh hbj;have HOX:=Qh hox;have HOB:=Qh hob;have HBW:Hid (Below w.heap.size w wr):=HB.out.trans (hob.mono HB.out.size);clear hbj hox hob hpi
 by_cases hjm:j<n
 ·obtain⟨p,hpj,hpm⟩:=aH (xs:=ms) (j:=j) (by have:=HN.out;omega)
  have HPJ:=Qh hpj;have HMV:=Qh (HMVS.out p hpm);have HSD:Hid (sdB sj=true):=by rw[HSJ.out];exact fE HS.out (fun m hm=>HMVS.out m (List.mem_of_mem_take hm))
  obtain⟨z,hz⟩:∃ z,z=cH p sj:=⟨_,rfl⟩;have HSN:Hid (z.2=(aP (ms.take (j+1)) s).2):=by rw[Hid,PI.BS hpj,<-HSJ.out,<-hz]
  have HZ:=Qh hz;obtain⟨b2,off2,cs2,Fp,rfl,hbl2,hc,_,P1,q1,rfl,hp1⟩:=HRW.out.cells hpj 3 rfl;have a0:wr.cell? ⟨b2,off2+j*3,none⟩=some (.int .i64 p.r):=(HBW.out.cell (p:=⟨b2,off2+j*3,none⟩) hbl2).trans (hc 0 (by omega))
  have a1:wr.cell? ⟨b2,off2+j*3+1,none⟩=some (.int .i64 p.c):=(HBW.out.cell (p:=⟨b2,off2+j*3+1,none⟩) hbl2).trans (hc 1 (by omega))
  have a2:wr.cell? ⟨b2,off2+j*3+2,none⟩=some (.slice P1 p.v.length q1):=(HBW.out.cell (p:=⟨b2,off2+j*3+2,none⟩) hbl2).trans (hc 2 (by omega))
  have HRM:Hid (RM wr (MV p.r p.c P1 p.v.length q1) p):=(RM.mk hp1.1 hp1.2.1 hp1.2.2.1).below HBW.out;have zb2:=Nat.lt_of_lt_of_le hbl2 HBW.out.size;have j0:(0:Int)<=(j:Int):=by omega
  have j1:(j:Int)<(n:Int):=by omega
  have H2:Hid (j+1<=maxLen):=by unfold maxLen;show j+1<=_;omega
  have H3:Hid ((j+1)*80<=140737488355328):=by show (j+1)*80<=_;omega
  clear hc hpj hpm hp1 hz;obtain⟨z8,c8_0,f8_0,c8_1,f8_1⟩:=BJ.f2
  go_wp2_with fail
  obtain⟨uw41,hu⟩:∃ u,u=((wr.alloc (.cells #[.int .i64 p.r,.int .i64 p.c,.slice P1 p.v.length q1] 37)).alloc (.cells #[.int .i64 0,.int .i64 0,.slice none 0 0,.int .i64 0,.int .i64 0,.slice none 0 0] 82)):=⟨_,rfl⟩;rw[<-hu];replace BJ:=Blk.cast hu ((BJ.alloc _).alloc _);have B21:Blk uw41 (wr.heap.size) 37 #[.int .i64 p.r,.int .i64 p.c,.slice P1 p.v.length q1]:=Blk.cast hu ((Blk.iA (by first|omega|(simp;done)|(simp;omega))).alloc _)
  have y8_21:w2.heap.size<wr.heap.size:=by omega
  have B22:Blk uw41 (wr.heap.size+1) 82 #[.int .i64 0,.int .i64 0,.slice none 0 0,.int .i64 0,.int .i64 0,.slice none 0 0]:=Blk.cast hu (Blk.iA (by first|omega|(simp;done)|(simp;omega)))
  have y8_22:w2.heap.size<wr.heap.size+1:=by omega
  have O:Below wr.heap.size wr uw41:=Below.cast hu ((Qb.alloc (by first|omega|(simp;done)|(simp;omega)) _).alloc (by first|omega|(simp;done)|(simp;omega)) _)
  have mw:=O.size;clear z8 c8_0 f8_0 c8_1 f8_1;clear hu;refine((show Calls prog 125 #[_,_] uw41 (tI z.1 z.2 uw41) from by rw[HZ.out];exact e8 HMV.out HSD.out uw41 (RM.below HRM.out O))).mono ?_
  rintro e w42 ⟨X,Y,cx,cy,rfl,f1,f2,f3,hb⟩;have F1:=f1.mono (base':=wr.heap.size) mw;have F2:=f2.mono (base':=wr.heap.size) mw;replace BJ:=BJ.aa hb;replace B21:=B21.aa hb;replace B22:=B22.aa hb;replace O:=O.trans (hb.mono mw);replace mw:=O.size;clear f1 f2;clear hb;obtain⟨z8,c8_0,f8_0,c8_1,f8_1⟩:=BJ.f2;obtain⟨z21,c21_0,f21_0,c21_1,f21_1,c21_2,f21_2⟩:=B21.f3;obtain⟨z22,c22_0,f22_0,c22_1,f22_1,c22_2,f22_2,c22_3,f22_3,c22_4,f22_4,c22_5,f22_5⟩:=B22.f6
  go_wp2_with fail
  obtain⟨uw43,hu⟩:∃ u,u=((((((w42.setCell ⟨wr.heap.size+1,0,none⟩ (.int .i64 z.1.1.r)).setCell ⟨wr.heap.size+1,1,none⟩ (.int .i64 z.1.1.c)).setCell ⟨wr.heap.size+1,2,none⟩ (.slice X z.1.1.v.length cx)).setCell ⟨wr.heap.size+1,3,none⟩ (.int .i64 z.1.2.r)).setCell ⟨wr.heap.size+1,4,none⟩ (.int .i64 z.1.2.c)).setCell ⟨wr.heap.size+1,5,none⟩ (.slice Y z.1.2.v.length cy)):=⟨_,rfl⟩;rw[<-hu];replace F1:=OS.cast hu (OS.Ep F1 B22 (by decide) (aZ.refl _ _).s1.s1.s1.s1.s1.s1)
  replace F2:=OS.cast hu (OS.Ep F2 B22 (by decide) (aZ.refl _ _).s1.s1.s1.s1.s1.s1)
  have q1:w2.heap.size≠wr.heap.size+1:=by omega
  replace BJ:=Blk.cast hu (BJ.only (aZ.refl _ _).s1.s1.s1.s1.s1.s1 q1);have q2:wr.heap.size≠wr.heap.size+1:=by omega
  replace B21:=Blk.cast hu (B21.only (aZ.refl _ _).s1.s1.s1.s1.s1.s1 q2);replace B22:Blk uw43 (wr.heap.size+1) 82 #[.int .i64 z.1.1.r,.int .i64 z.1.1.c,.slice X z.1.1.v.length cx,.int .i64 z.1.2.r,.int .i64 z.1.2.c,.slice Y z.1.2.v.length cy]:=Blk.cast hu ((((((B22.dc 0 _).dc 1 _).dc 2 _).dc 3 _).dc 4 _).dc 5 _);have q3:wr.heap.size<=wr.heap.size+1:=by omega
  replace O:=Below.cast hu ((((((O.setCell q3 _).setCell q3 _).setCell q3 _).setCell q3 _).setCell q3 _).setCell q3 _);replace mw:=O.size;clear z8 c8_0 f8_0 c8_1 f8_1 z21 c21_0 f21_0 c21_1 f21_1 c21_2 f21_2 z22 c22_0 f22_0 c22_1 f22_1 c22_2 f22_2 c22_3 f22_3 c22_4 f22_4 c22_5 f22_5;clear hu;clear q1 q2 q3;obtain⟨S,KP,KQ,KA,KU,KC⟩:=BK (u:=uw43) [w2.heap.size,wr.heap.size+1] (by intro i hi;simp only[List.mem_cons,List.not_mem_nil,or_false] at hi;rcases hi with rfl|rfl;exact BJ.lt;exact B22.lt)
  have g8_0:∀ zw:Wd S,zw.w.cell? ⟨w2.heap.size,0,none⟩=some (.int .i64 kd):=fun zw=>(KC.out zw _ (by simp) _).trans (BJ.cell 0)
  have g8_1:∀ zw:Wd S,zw.w.cell? ⟨w2.heap.size,1,none⟩=some (.slice AI j cI):=fun zw=>(KC.out zw _ (by simp) _).trans (BJ.cell 1)
  have g22_0:∀ zw:Wd S,zw.w.cell? ⟨wr.heap.size+1,0,none⟩=some (.int .i64 z.1.1.r):=fun zw=>(KC.out zw _ (by simp) _).trans (B22.cell 0)
  have g22_1:∀ zw:Wd S,zw.w.cell? ⟨wr.heap.size+1,1,none⟩=some (.int .i64 z.1.1.c):=fun zw=>(KC.out zw _ (by simp) _).trans (B22.cell 1)
  have g22_2:∀ zw:Wd S,zw.w.cell? ⟨wr.heap.size+1,2,none⟩=some (.slice X z.1.1.v.length cx):=fun zw=>(KC.out zw _ (by simp) _).trans (B22.cell 2)
  have g22_3:∀ zw:Wd S,zw.w.cell? ⟨wr.heap.size+1,3,none⟩=some (.int .i64 z.1.2.r):=fun zw=>(KC.out zw _ (by simp) _).trans (B22.cell 3)
  have g22_4:∀ zw:Wd S,zw.w.cell? ⟨wr.heap.size+1,4,none⟩=some (.int .i64 z.1.2.c):=fun zw=>(KC.out zw _ (by simp) _).trans (B22.cell 4)
  have g22_5:∀ zw:Wd S,zw.w.cell? ⟨wr.heap.size+1,5,none⟩=some (.slice Y z.1.2.v.length cy):=fun zw=>(KC.out zw _ (by simp) _).trans (B22.cell 5)
  refine dZ noX true S (by kernel_rfl) (by kernel_rfl) (fun _=>by kernel_rfl) (KP.out _ Qb.drew) ?_
  intro hne;have hb:=(Below.refl uw43.heap.size uw43).drew;obtain⟨w44,hd⟩:∃ u,u=uw43.drew:=⟨_,rfl⟩;rw[<-hd] at hb ⊢
  (try simp only[Nat.add_assoc,Nat.reduceAdd])
  clear hd;have hS:=Qh (KP.out _ hb);replace BJ:=BJ.aa hb;replace B21:=B21.aa hb;replace B22:=B22.aa hb;replace F1:=F1.below hb;replace F2:=F2.below hb;replace O:=O.trans (hb.mono mw);replace mw:=O.size;clear hb
  repeat (first|(refine aF (by rfl) (by rfl) ?_;intro K hK;go_big_quiet_op;go_big_quiet_on)|(refine aG (by rfl) ?_))
  refine bj (by rfl) (by rfl) (fun K hK=>?_)
  unfold Oper.gives
  go_simp
  refine hK _ _ ⟨⟨_,KA _ _ hS.out⟩,rfl⟩ ?_;clear hK K
  repeat (first|(refine aF (by rfl) (by rfl) ?_;intro K hK;go_big_quiet_op;go_big_quiet_on)|(refine aG (by rfl) ?_))
  refine bj (by rfl) (by rfl) (fun K hK=>?_)
  refine j9 _ _ _ (by rfl) (w2.heap.size+1) 82 i0 (.agg #[.int .i64 0,.int .i64 0,.slice none 0 0,.int .i64 0,.int .i64 0,.slice none 0 0]) 6 80 underlying97 hi hz0 hz1 hz2 rfl (by omega) (.slice AI j cI) j _ (by rfl) (World.ownsRow.alloc (HOX.out.below O).1 _) ⟨w44.heap.size,0,none⟩ 1 1 [.int .i64 z.1.1.r,.int .i64 z.1.1.c,.slice X z.1.1.v.length cx,.int .i64 z.1.2.r,.int .i64 z.1.2.c,.slice Y z.1.2.v.length cy] (by rfl) rfl (fun jj u h=>dz _ _ _ jj u h) (by intro u hu;simp at hu;rcases hu with rfl|rfl|rfl|rfl|rfl|rfl <;> rfl) (by omega) H2.out H3.out (by simp;omega) (w44.heap.size+1) (by simp) ?_
  intro g5 cap5 w5 hown hgr hat hlt5;have hP:smE.P w44 [.int .i64 z.1.1.r,.int .i64 z.1.1.c,.slice X z.1.1.v.length cx,.int .i64 z.1.2.r,.int .i64 z.1.2.c,.slice Y z.1.2.v.length cy] z.1 (fpI X z.1.1.v.length++fpI Y z.1.2.v.length):=⟨X,cx,Y,cy,_,_,rfl,MF.aB F1,MF.aB F2,rfl⟩;have hFR:Fr w44 wr.heap.size (fpI X z.1.1.v.length++fpI Y z.1.2.v.length):=Fr.app (ek F1) (ek F2) (fun g h1 h2=>f3 g (bz h1).2 (bz h2).2)
  have HN5:=Qh (PI.next Ql HBJ.out HOX.out HOB.out O HPJ.out (by rw[<-HSJ.out,<-HZ.out];exact hP) hFR hown hgr hat)
  have hUp:UpL (fun i=>blk AI=some i) (w44.alloc (.cells #[.int .i64 z.1.1.r,.int .i64 z.1.1.c,.slice X z.1.1.v.length cx,.int .i64 z.1.2.r,.int .i64 z.1.2.c,.slice Y z.1.2.v.length cy] 82)) w5:=UpL.bR UpL.refl (by unfold bJ;rw[<-aO AI j cI];exact hgr) (fun i _ e=>e)
  have hNs:∀ i,i∈[w2.heap.size,wr.heap.size+1]->¬(blk AI=some i):=(by intro i hi e;simp only[List.mem_cons,List.not_mem_nil,or_false] at hi;rcases hi with rfl|rfl;exact HOX.out.1.gu HBJ.out (by decide) e;have:=(HOX.out.aj _ e).2;omega)
  go_simp
  refine hK _ _ ⟨⟨_,KU _ _ _ hUp hNs (KA _ _ hS.out)⟩,rfl⟩ ?_;clear hK K hUp hNs hP hFR hown hat
  repeat (first|(refine aF (by rfl) (by rfl) ?_;intro K hK;go_big_quiet_op;go_big_quiet_on)|(refine aG (by rfl) ?_))
  have BJ5:=HN5.out.1;obtain⟨z5,c5_0,f5_0,c5_1,f5_1⟩:=BJ5.f2;refine aV rfl (by rfl) (by rfl) (fun K hK=>?_)
  unfold Oper.gives
  go_simp
  refine hK _ _ ?_;clear hK K z5 c5_0 f5_0 c5_1 f5_1 BJ5
  repeat (first|(refine aF (by rfl) (by rfl) ?_;intro K hK;go_big_quiet_op;go_big_quiet_on)|(refine aG (by rfl) ?_))
  refine aI ?_;clear hne KP KQ KA KU KC hS g8_0 g8_1 g22_0 g22_1 g22_2 g22_3 g22_4 g22_5;go_wp2
  go_roundw
  case rel=>exact⟨j+1,cap5,some ⟨g5,0,none⟩,z.2,by omega,rfl,by go_num,HSN,Qh HN5.out.2⟩
  case measure=>simp[intOf];omega
 ·obtain rfl:j=n:=by omega
  obtain⟨z8,c8_0,f8_0,c8_1,f8_1⟩:=BJ.f2
  go_wp2_with fail
  rw[rounds_succ];go_wp2
  go_ret2
  have hox:=HOX.out;rw[List.take_of_length_le (by rw[HN.out];exact Nat.le_refl _)] at hox
  have hsj:=HSJ.out;rw[List.take_of_length_le (by rw[HN.out];exact Nat.le_refl _)] at hsj
  exact⟨w2.heap.size,AI,cI,cssI,FI,by rw[hsj];rfl,by rw[<-HN.out];exact BJ,by rw[<-HN.out];exact hox,HB.out.size,HBW.out⟩
theorem nC {kd:Int} {ms:List Mx} (hl:aL kd ms=false) (hms:∀ m,m∈ms->mS m) (hlen:ms.length<=1048576) {A:Option Addr} {cap:Nat} {F:List Nat} (w:World) (hx:RI (kE mxE) w A 1 cap [(kd,ms)] F) :
  Calls prog 62 #[.slice A 1 cap] w fun e w'=>e= .returned (.tuple #[.slice none 0 0,.bool false])/\Below w.heap.size w w':=by
 obtain⟨n,hn⟩:∃ n,n=ms.length:=⟨_,rfl⟩;obtain⟨b,off,cs,Fx,rfl,hbl,hc,_,Aw,cw,rfl,hrw⟩:=hx.cells (i:=0) (x:=(kd,ms)) rfl 2 rfl;have d0:w.cell? ⟨b,off,none⟩=some (.int .i64 kd):=by have:=hc 0 (by omega);simpa using this
 have d1:w.cell? ⟨b,off+1,none⟩=some (.slice Aw n cw):=by have:=hc 1 (by omega);rw[hn];simpa using this
 have HRW:Hid (RI mxE w Aw n cw ms Fx):=by rw[hn];exact hrw
 have hb25:n<=1048576:=by rw[hn];exact hlen
 have HMS:=Qh hms;have HL:=Qh hl;have hmk:∀ W:World,(Instr.makeSlice 105 (.int .i64 1) (.int .i64 1)).run prog W= .ok (.slice (some ⟨W.heap.size,0,none⟩) 1 1) (W.alloc (.cells #[.nilIface] 110)):=fun W=>by have h:=ze 1 (by omega) W;rw[show madeCells #[Value.nilIface] (1*1)=#[.nilIface] by kernel_rfl] at h;exact h
 clear hx hc hl hms hlen hn hrw
 go_enter func62,ntmps62
 go_wp2;refine wp_loop_rounds 2 ?_;rw[rounds_succ]
 go_wp2_with fail
 refine(lj kd Aw n cw ms Fx w _ HRW.out ((Qb.alloc Ql _).alloc (by simp) _) HMS.out hb25).mono ?_
 rintro e w5 ⟨v,rfl,-,hb⟩;rw[HL.out];have O:Below w.heap.size w w5:=Below.trans ((Qb.alloc Ql _).alloc (by simp) _) (hb.mono (by simp;omega))
 clear hb HRW;go_wp2
 go_ret2
 exact⟨rfl,O⟩
theorem ny {kd s:Int} {ms:List Mx} (hl:aL kd ms=false) (hms:∀ m,m∈ms->mS m) (hlen:ms.length<=1048576) {A:Option Addr} {cap:Nat} {F:List Nat} (w:World) (hx:RI (kE mxE) w A 1 cap [(kd,ms)] F) :
  Calls prog 124 #[.slice A 1 cap,.int .i64 s] w fun e w'=>e= .returned (.tuple #[.slice none 0 0,.int .i64 0])/\Below w.heap.size w w':=by
 have HC:=Qh (nC hl hms hlen w hx);clear hl hms hlen hx
 go_enter func124,ntmps124
 go_wp2_with fail
 refine HC.out.mono ?_;rintro e w2 ⟨rfl,hb⟩;go_wp2
 go_ret2
 exact⟨rfl,hb⟩
end
section
theorem OX.Dw {α:Type} {E:Elt α} {w wr w1:World} {base k c g cap' B:Nat} {T:TypeId} {A:Option Addr} {css:List (List Value)} {xs:List α} {F F1:List Nat} {ys:List Value} {x:α} (h:OX E wr base T A k c css xs F) (hx:E.P wr ys x F1) (hf:Fr wr base F1) (hd:∀ g,g∈F1->g∉F/\blk A≠some g) (hb:Below B w wr) (hB:B<=base) (hbs:base<=wr.heap.size) (hBw:B<=w.heap.size)
  (hown:w1.ownsRow base T E.s (.slice (some ⟨g,0,none⟩) (k+1) cap') (k+1) (css.flatten++ys)) (hg:wr.grownBy w1 (Value.slice A k c).ownBlock)
  (hat:(Value.slice A k c).ownBlock=some g\/g=wr.heap.size) :
  OX E w1 base T (some ⟨g,0,none⟩) (k+1) cap' (css++[ys]) (xs++[x]) (F++F1)/\Below B w w1/\bJ A wr w1:=by
 rw[aO] at hg hat;have v3:bJ A wr w1:=hg;have v4:blk A=some g\/wr.heap.size<=g:=hat.imp id (fun e=>by omega)
 have hk:∀ g',g'<wr.heap.size->blk A≠some g'->w1.heap[g']?=wr.heap[g']?:=fun g' hl hne=>v3.block g' hl (fun e=>hne e.symm)
 have hFA:∀ g',g'∈F->blk A≠some g':=fun g' hg' e=>h.2.2.2.2 g' e hg'
 refine⟨⟨by unfold VO;rw[List.flatten_append];simpa using hown,by rw[List.length_append,h.2.1];rfl,?_,?_,?_⟩,hb.grown hg (by have:=hb.size;omega) (fun g hg'=>Nat.le_trans hB (h.aj g hg').1),v3⟩
 ·exact(h.2.2.1.au fun g' hg'=>hk g' (h.lt g' hg') (hFA g' hg')).push (E.au _ _ _ _ _ hx fun g' hg'=>hk g' (E.lt _ _ _ _ hx g' hg') (hd g' hg').2)
 ·exact(h.2.2.2.1.au fun g' hg'=>hk g' (h.lt g' hg') (hFA g' hg')).app (hf.au fun g' hg'=>hk g' (hf.lt g' hg') (hd g' hg').2) (fun g' h1 h2=>(hd g' h2).1 h1)
 ·intro g' hg' hF;have e:g=g':=by simpa [blk] using hg'
  subst e;rcases v4 with h4|h4
  ·rcases List.mem_append.1 hF with hF|hF
   ·exact hFA g hF h4
   ·exact(hd g hF).2 h4
  ·rcases List.mem_append.1 hF with hF|hF
   ·have:=h.lt g hF;omega
   ·have:=hf.lt g hF;omega
def ApI (t T:TypeId) (s:Nat):Prop:=∃ (i:TypeInfo) (z:Value) (bytes:Nat),prog.underlying t=some (.slice T)/\prog.info? T=some i/\i.zero=some z/\i.size=s/\i.bytes=bytes/\z.cells.size=s/\0<s/\bytes<=1000
theorem apM:ApI 69 37 3:=by obtain⟨i0,hi,hz0,hz1,hz2⟩:=info_parts rI;exact⟨i0,_,_,underlying69,hi,hz0,hz1,hz2,rfl,by decide,by decide⟩
theorem Cx:ApI 97 82 6:=by obtain⟨i0,hi,hz0,hz1,hz2⟩:=info_parts lq;exact⟨i0,_,_,underlying97,hi,hz0,hz1,hz2,rfl,by decide,by decide⟩
theorem zY:ApI 23 99 2:=by obtain⟨i0,hi,hz0,hz1,hz2⟩:=info_parts nJ;exact⟨i0,_,_,underlying23,hi,hz0,hz1,hz2,rfl,by decide,by decide⟩
section
variable {α:Type} {E:Elt α} {t T t':TypeId} {w w' w0 u:World} {L M:List Ow} {c d:Ow} {b n k q g g0 h0 cap:Nat} {A:Option Addr} {css:List (List Value)} {xs:List α} {F F1:List Nat} {cs ds:List Value} {x:α} {o:Oper} {a:Act} {R:Value->World->Prop} {S:World->Prop} {gs:List Nat}
theorem jv (I:ApI t T E.s) (ty:TypeId) (hC:OX E w b T A n k css xs F) (hB:Blk w g0 T cs.toArray) (hl:cs.length=E.s) (h1:∀ v,v∈cs->v.oneCell'=true) (hn:n<=1000000) (hb:b<=w.heap.size) :
  ∃ g cap w',(Builtin.append_ #[t,t] ty #[.slice A n k,.slice (some ⟨g0,0,none⟩) 1 q]).run prog w= .ok (.slice (some ⟨g,0,none⟩) (n+1) cap) w'/\w'.ownsRow b T E.s (.slice (some ⟨g,0,none⟩) (n+1) cap) (n+1) (css.flatten++cs)/\w.grownBy w' (Value.slice A n k).ownBlock/\((Value.slice A n k).ownBlock=some g\/g=w.heap.size):=by
 obtain⟨i,z,bytes,k1,k2,k3,k4,k5,k6,k7,k8⟩:=I;obtain⟨g,cap,w',hr,r1,r2,r3,_⟩:=run_append_lies (P:=prog) w t ty b T i z E.s bytes k1 k2 k3 k4 k5 k6 k7 (.slice A n k) n _ hC.1 ⟨g0,0,none⟩ 1 q cs (by omega) (fun j u hu=>World.news_of_block (show w.heap[g0]?=some (.cells cs.toArray T) from hB) j u (by simpa using hu)) h1
  (by omega) (by unfold maxLen;omega) (Nat.le_trans (Nat.mul_le_mul (show n+1<=1000001 by omega) k8) (by omega)) hb w.heap.size rfl
 exact⟨g,cap,w',hr,r1,r2,r3⟩
theorem Hq.apx (H:Hq w0 (qX E w0.heap.size T A n k css xs F::d::L) w) (hx:E.P w cs x F1) (hf:Fr w w0.heap.size F1) (hF:∀ i,i∈F1->d.F i)
  (hown:w'.ownsRow w0.heap.size T E.s (.slice (some ⟨g,0,none⟩) (n+1) cap) (n+1) (css.flatten++cs)) (hg:w.grownBy w' (Value.slice A n k).ownBlock) (hat:(Value.slice A n k).ownBlock=some g\/g=w.heap.size):Hq w0 (qX E w0.heap.size T (some ⟨g,0,none⟩) (n+1) cap (css++[cs]) (xs++[x]) (F++F1)::L) w':=by
 have hO:OX E w w0.heap.size T A n k css xs F:=H.S.1;have hd:∀ i,i∈F1->i∉F/\blk A≠some i:=fun i hi=>⟨fun h=>H.S.2.1 i (.inr h) d (List.mem_cons_self ..) (hF i hi),fun h=>H.S.2.1 i (.inl h) d (List.mem_cons_self ..) (hF i hi)⟩
 obtain⟨k1,k2,k3⟩:=OX.Dw hO hx hf hd H.O Ql H.m Ql hown hg hat;rw[aO] at hat;refine⟨⟨k1,fun i hi e he hei=>?_,H.S.2.2.2.2.au k3.size fun e he i hi hl=>k3.block i hl fun h=>H.S.2.1 i (.inl h.symm) e (List.mem_cons_of_mem _ he) hi⟩,fun e he i hi=>?_,k2⟩
 ·rcases hi with hi|hi
  ·have e1:g=i:=by simpa [blk] using hi
   subst e1;rcases hat with h|h
   ·exact H.S.2.1 g (.inl h) e (List.mem_cons_of_mem _ he) hei
   ·have:=H.S.lt e (List.mem_cons_of_mem _ (List.mem_cons_of_mem _ he)) g hei;omega
  ·rcases List.mem_append.1 hi with hi|hi
   ·exact H.S.2.1 i (.inr hi) e (List.mem_cons_of_mem _ he) hei
   ·exact H.S.2.2.2.1 i (hF i hi) e he hei
 ·rcases List.mem_cons.1 he with rfl|he
  ·rcases hi with hi|hi
   ·exact(k1.aj i hi).1
   ·exact(k1.2.2.2.1.2 i hi).1
  ·exact H.tl.tl.B e he i hi
theorem Hr.apx (Z:Hr S u gs w0 (qX E w0.heap.size T A n k css xs F::d::L) w) (hx:E.P w cs x F1) (hf:Fr w w0.heap.size F1) (hF:∀ i,i∈F1->d.F i)
  (hown:w'.ownsRow w0.heap.size T E.s (.slice (some ⟨g,0,none⟩) (n+1) cap) (n+1) (css.flatten++cs)) (hg:w.grownBy w' (Value.slice A n k).ownBlock) (hat:(Value.slice A n k).ownBlock=some g\/g=w.heap.size) (hn:∀ i,i∈gs->blk A≠some i):Hr S u gs w0 (qX E w0.heap.size T (some ⟨g,0,none⟩) (n+1) cap (css++[cs]) (xs++[x]) (F++F1)::L) w' :=
 ⟨Z.H.apx hx hf hF hown hg hat,Z.cl,Z.cl.up _ _ (fun i=>blk A=some i) (UpL.bR (A:=A) UpL.refl (by unfold bJ;rw[<-aO A n k];exact hg) (fun _ _ e=>e)) (fun i hi e=>hn i hi e) Z.s⟩
theorem Hq.nbx (H:Hq w0 (qX E b T A n k css xs F::L) w) (m:Has L (qB h0 t' ds)):blk A≠some h0:=fun e=>H.S.2.1 h0 (.inl e) _ m.mem rfl
theorem Hq.nex (H:Hq w0 (qX E b T A n k css xs F::L) w) (h:h0<w0.heap.size):blk A≠some h0:=fun e=>Nat.not_lt.2 (H.B (qX E b T A n k css xs F) (List.mem_cons_self ..) _ (.inl e)) h
theorem mu (I:ApI t T E.s) (s y:Operand) (ho:o.op= .call { callee:= .builtin .append,args:=#[s,y],argTypes:=#[t,t] }) (hs:a.eval s= .slice A n k) (hy:a.eval y= .slice (some ⟨g0,0,none⟩) 1 q) (Z:Hr S u gs w0 (qX E w0.heap.size T A n k css xs F::d::L) w) (hB:Blk w g0 T cs.toArray)
  (hx:E.P w cs x F1) (hf:Fr w w0.heap.size F1) (hF:∀ i,i∈F1->d.F i) (h1:∀ v,v∈cs->v.oneCell'=true) (hn:n<=1000000) (hgs:∀ i,i∈gs->blk A≠some i)
  (h:∀ g cap w',Hr S u gs w0 (qX E w0.heap.size T (some ⟨g,0,none⟩) (n+1) cap (css++[cs]) (xs++[x]) (F++F1)::L) w'->R (.slice (some ⟨g,0,none⟩) (n+1) cap) w'):Oper.gives prog o a w R:=by
 obtain⟨g,cap,w',hr,r1,r2,r3⟩:=jv (q:=q) I o.type Z.H.S.1 hB (E.len _ _ _ _ hx) h1 hn Z.H.m;unfold Oper.gives execOp;simp only[ho,resolve,invoke,builtin,Sem.run_bind,Sem.run_pure,Result.andThen_ok,List.map_toArray,List.map_cons,List.map_nil,hs,hy,hr]
 exact h g cap w' (Z.apx hx hf hF r1 r2 r3 hgs)
theorem lU {ops:Array Oper} {rest:List Oper} {Q:Exit->Act->World->Prop} (hgd:o.guard=none) (I:ApI t T E.s) (s y:Operand) (ho:o.op= .call { callee:= .builtin .append,args:=#[s,y],argTypes:=#[t,t] }) (hs:a.eval s= .slice A n k) (hy:a.eval y= .slice (some ⟨g0,0,none⟩) 1 q) (Z:Hq w0 (qX E w0.heap.size T A n k css xs F::d::L) w) (hB:Blk w g0 T cs.toArray)
  (hx:E.P w cs x F1) (hf:Fr w w0.heap.size F1) (hF:∀ i,i∈F1->d.F i) (h1:∀ v,v∈cs->v.oneCell'=true) (hn:n<=1000000)
  (h:∀ g cap w',Hq w0 (qX E w0.heap.size T (some ⟨g,0,none⟩) (n+1) cap (css++[cs]) (xs++[x]) (F++F1)::L) w'->wpList prog ops Q rest (a.put o.dst (.slice (some ⟨g,0,none⟩) (n+1) cap)) w'):wpList prog ops Q (o::rest) a w :=
 wpList_plain hgd fun _ hK=>by
  obtain⟨g,cap,w',hr,r1,r2,r3⟩:=jv (q:=q) I o.type Z.S.1 hB (E.len _ _ _ _ hx) h1 hn Z.m;unfold Oper.wp execOp;simp only[ho,resolve,invoke,builtin,Sem.run_bind,Sem.run_pure,Result.andThen_ok,List.map_toArray,List.map_cons,List.map_nil,hs,hy,hr]
  exact hK _ _ (h g cap w' (Z.apx hx hf hF r1 r2 r3))
theorem Hq.mrg (H:Hq w0 (c::d::L) w):Hq w0 (c.and d::L) w:=by
 refine⟨⟨⟨H.S.1,H.S.2.2.1⟩,fun i hi e he=>hi.elim (fun h=>H.S.2.1 i h e (List.mem_cons_of_mem _ he)) (fun h=>H.S.2.2.2.1 i h e he),H.S.2.2.2.2⟩,fun e he i hi=>?_,H.O⟩
 rcases List.mem_cons.1 he with rfl|he
 ·exact hi.elim (H.B c (List.mem_cons_self ..) i) (H.B d (List.mem_cons_of_mem _ (List.mem_cons_self ..)) i)
 ·exact H.tl.tl.B e he i hi
theorem Hr.mrg (Z:Hr S u gs w0 (c::d::L) w):Hr S u gs w0 (c.and d::L) w:=Z.re Hq.mrg
theorem Hq.ye (H:Hq w0 L w) (E:Elt α) (T:TypeId):Hq w0 (qX E w0.heap.size T none 0 0 [] [] []::L) w:=H.add Qb _ (OX.nil w _ T) fun i hi=>hi.elim (fun e=>by cases e) (fun e=>by cases e)
theorem Hr.ye (Z:Hr S u gs w0 L w) (E:Elt α) (T:TypeId):Hr S u gs w0 (qX E w0.heap.size T none 0 0 [] [] []::L) w:=Z.re fun H=>H.ye E T
theorem Hq.bsX (H:Hq w0 L w) (E:Elt α) (hg:w.heap.size=g):Hq w0 (qX E w0.heap.size T (some ⟨g,0,none⟩) 0 0 [] [] []::L) (w.alloc (.cells #[] T)):=by
 subst hg
 exact H.add (Qb.alloc Ql _) _ (OX.kG w H.m T) fun i hi=>hi.elim (fun e=>by simp[blk] at e;omega) (fun e=>by cases e)
theorem OX.rf (h:OX E w b T A n k css xs F) (hT:T≠25:=by decide):∃ F',RI E w A n k xs F'/\Fr w b F'/\∀ i,i∈F'->blk A=some i\/i∈F:=by
 obtain⟨h1,h2,h3,h4,h5⟩:=h;have hc:=h1.dC
 by_cases hn:n=0
 ·subst hn;have:xs=[]:=List.eq_nil_of_length_eq_zero h2;subst this
  exact⟨[],⟨rfl,Nat.zero_le _,hc.2,.inl ⟨rfl,rfl⟩⟩,Fr.nil w b,fun _ hi=>(by cases hi)⟩
 ·obtain⟨g,rfl,hb,hg⟩:=h1.pos (by omega)
  obtain⟨cs,hblk⟩:∃ cs,Blk w g T cs:=by
   rcases h1.2 with⟨e,e'⟩|⟨g',c',cur,e,_,hh,_⟩
   ·omega
   ·injection e with e1;injection e1 with e1;injection e1 with e1;subst e1
    exact⟨_,hh⟩
  refine⟨g::F,⟨h2,hc.1,hc.2,.inr ⟨g,0,css,F,rfl,hg,rfl,h3,fun i cs hi j hj=>?_⟩⟩,Fr.cons hblk hb h4 (h5 g rfl) hT,fun i hi=>(List.mem_cons.1 hi).imp (fun e=>by rw[e];rfl) id⟩
  have hil:i<n:=by
   have:=(List.getElem?_eq_some_iff.1 hi).1;rw[h3.length,h2] at this
   exact this
  have hlt:i*E.s+j<n*E.s:=by
   have:(i+1)*E.s<=n*E.s:=Nat.mul_le_mul_right _ hil;rw[Nat.succ_mul] at this
   omega
  rw[Nat.zero_add,h1.cell _ hlt];have:=iG (rest:=[]) h3.lens i cs hi j hj
  rwa [List.append_nil] at this
end
theorem yX {P Q T0:Prop} (c:T0) (k:Q) (h:T0->Wr Q->P:=by
  intro c q;intros
  repeat (first|(refine lc' ?_;intro K hK;go_big_quiet_op;go_big_quiet_on)|refine lk' ?_)
  refine lo' fun K hK=>?_
  refine mu c.1 _ _ rfl rfl rfl H (Has.blk H.H (by repeat (with_reducible first|exact Has.h0|apply Has.t0))) c.2.1 c.2.2.1 c.2.2.2 (by simp[Value.oneCell']) (by omega) (by repeat (first|exact all_nil|refine all_cons (by first|assumption|exact Hq.nbx H.H (by repeat (with_reducible first|exact Has.h0|apply Has.t0))|exact Hq.nex H.H (by assumption)) ?_)) ?_
  intro g k w' Hn
  (try clear H)
  go_simp
  refine ly' Hn hK ?_;clear hK K c
  repeat (revert ‹Act->World->Prop›;have zz:=q;clear zz)
  revert g k w' Hn
  exact q.o):P:=h c ⟨k⟩
theorem zAx {P Q T0:Prop} (c:T0) (k:Q) (h:T0->Wr Q->P:=by
  intro c q;intros;refine lU rfl c.1 _ _ rfl rfl rfl H (Has.blk H (by repeat (with_reducible first|exact Has.h0|apply Has.t0))) c.2.1 c.2.2.1 c.2.2.2 (by simp[Value.oneCell']) (by omega) ?_
  intro g k w' Hn
  (try clear H)
  clear c
  repeat (revert ‹Act->World->Prop›;have zz:=q;clear zz)
  revert g k w' Hn
  exact q.o):P:=h c ⟨k⟩
abbrev qV (w:World) (A:Option Addr) (F:List Nat):Ow:=qT (fun i=>i<w.heap.size/\¬(blk A=some i\/i∈F)) (fun w'=>w.heap.size<=w'.heap.size/\∀ i,i<w.heap.size->¬(blk A=some i\/i∈F)->w'.heap[i]?=w.heap[i]?) (fun w' h i e=>Nat.lt_of_lt_of_le e.1 h.1)
 (fun w' w'' h hs k=>⟨Nat.le_trans h.1 hs,fun i hi hn=>(k i ⟨hi,hn⟩ (Nat.lt_of_lt_of_le hi h.1)).trans (h.2 i hi hn)⟩)
section
variable {α:Type} {E:Elt α} {T:TypeId} {w w' w0:World} {L:List Ow} {c:Ow} {b n k n' k' g:Nat} {A A':Option Addr} {css css':List (List Value)} {xs xs':List α} {F F':List Nat} {cs:List Value} {x:α} {G:Nat->Prop}
theorem OX.reb {b':Nat} (h:OX E w b T A n k css xs F) (hb:∀ i,blk A=some i\/i∈F->b'<=i):OX E w b' T A n k css xs F:=by
 obtain⟨h1,h2,h3,h4,h5⟩:=h;refine⟨⟨h1.1,?_⟩,h2,h3,⟨h4.1,fun g hg=>⟨hb g (.inr hg),(h4.2 g hg).2⟩⟩,h5⟩
 rcases h1.2 with e|⟨g,c',cur,e,_,rest⟩
 ·exact .inl e
 ·refine .inr ⟨g,c',cur,e,hb g (.inl ?_),rest⟩;injection e with e;rw[e];rfl
theorem Hq.rs0 (h:OX E w b T A n k css xs F):Hq (fI w) [qX E (fI w).heap.size T A n k css xs F,qV w A F] w :=
 ⟨⟨h.mono (Nat.zero_le _),fun i hi d hd hdi=>by
  obtain rfl:d=qV w A F:=by simpa using hd
  exact hdi.2 hi,⟨Nat.le_refl _,fun _ _ _=>rfl⟩,fun i hi d hd=>(by cases hd),trivial⟩,fun _ _ _ _=>Nat.zero_le _,pd w⟩
theorem Hq.rsX (h:OX E w b T A n k css xs F) (hb:b<=w.heap.size) (K:Hq (fI w) [qX E (fI w).heap.size T A' n' k' css' xs' F',qV w A F] w'):OX E w' b T A' n' k' css' xs' F'/\UpL (fun i=>blk A=some i\/i∈F) w w':=by
 refine⟨OX.reb (K.S.1) fun i hi=>?_,⟨K.O.os,K.O.tape,K.O.output,K.S.2.2.1.1,K.S.2.2.1.2⟩⟩
 by_cases hw:i<w.heap.size
 ·have hn:=K.S.2.1 i hi _ (List.mem_cons_self ..);have:=Classical.byContradiction fun e=>hn ⟨hw,e⟩
  rcases this with e|e
  ·exact(h.aj i e).1
  ·exact(h.2.2.2.1.2 i e).1
 ·omega
theorem OX.one (h:OX E w b T A n k css [x] F):∃ cs g,css=[cs]/\A=some ⟨g,0,none⟩/\n=1/\E.P w cs x F/\Fr w b F/\(∀ j,j<E.s->w.cell? ⟨g,j,none⟩=cs[j]?)/\g<w.heap.size:=by
 obtain⟨h1,h2,h3,h4,h5⟩:=h;have hn:n=1:=h2.symm;subst hn
 match css,h3 with
 | [],h3=>cases h3
 | _::_::_,⟨_,_,_,_,h3⟩=>cases h3
 | [cs],⟨F1,F2,e,hp,h3⟩ =>
  have h3:F2=[]:=h3;subst h3;rw[List.append_nil] at e;subst e;obtain⟨g,rfl,_,hg⟩:=h1.pos (by omega)
  refine⟨cs,g,rfl,rfl,rfl,hp,h4,fun j hj=>?_,hg⟩
  have:=h1.cell j (by omega)
  rwa [List.flatten_cons,List.flatten_nil,List.append_nil] at this
theorem OX.ft (h:OX E w b T (some ⟨g,0,none⟩) n k [cs] [x] F):E.P w cs x F/\Fr w b F/\(∀ j,j<E.s->w.cell? ⟨g,j,none⟩=cs[j]?)/\g<w.heap.size:=by
 obtain⟨cs',g',e,e2,_,h1,h2,h3,h4⟩:=h.one;injection e with e;subst e;injection e2 with e2;injection e2 with e2;subst e2
 exact⟨h1,h2,h3,h4⟩
theorem UpL.imp {G':Nat->Prop} (h:UpL G w w') (k:∀ i,G i->G' i):UpL G' w w':=⟨h.os,h.tape,h.output,h.size,fun i hi hn=>h.block i hi fun e=>hn (k i e)⟩
theorem Hq.ul (H:Hq w0 (c::L) w) (U:UpL G w w') (hG:∀ i,G i->c.F i):Hq w0 L w' :=
 ⟨H.S.2.2.au U.size fun d hd i hi hl=>U.block i hl fun e=>H.S.2.1 i (hG i e) d hd hi,fun d hd=>H.B d (List.mem_cons_of_mem _ hd),U.over H.O (fun i _ hi=>H.B c (List.mem_cons_self ..) i (hG i hi)) H.m⟩
end
theorem Sp.get' {w:World} {d:Ow}:∀ {L:List Ow},Sp L w->d∈L->d.P w
 | _::_,s,h=>by
  rcases List.mem_cons.1 h with rfl|h
  ·exact s.1
  ·exact s.2.2.get' h
theorem OX.nsv {α:Type} {E:Elt α} {w:World} {b:Nat} {T:TypeId} {A:Option Addr} {n k i:Nat} {css:List (List Value)} {xs:List α} {F:List Nat} {cs:Array Value} (h:OX E w b T A n k css xs F) (hb:Blk w i 25 cs) (hT:T≠25):¬blk A=some i:=h.1.gu hb hT
theorem OX.fr {α:Type} {E:Elt α} {w:World} {b:Nat} {T:TypeId} {A:Option Addr} {n k:Nat} {css:List (List Value)} {xs:List α} {F:List Nat} (h:OX E w b T A n k css xs F):Fr w b F:=h.2.2.2.1
def Ow.Nv (d:Ow):Prop:=∀ w,d.P w->∀ i,d.F i->∀ cs,¬Blk w i 25 cs
theorem nvX {α:Type} {E:Elt α} {b:Nat} {T:TypeId} {A:Option Addr} {n k:Nat} {css:List (List Value)} {xs:List α} {F:List Nat} (hT:T≠25:=by decide):(qX E b T A n k css xs F).Nv:=fun w h i hi cs hb=>hi.elim (fun e=>OX.nsv h hb hT e) (fun e=>Fr.zi (OX.fr h) hb e)
theorem nvR {α:Type} {E:Elt α} {b:Nat} {A:Option Addr} {n k:Nat} {xs:List α} {F:List Nat}:(qR E b A n k xs F).Nv:=fun w h i hi cs hb=>Fr.zi h.2 hb hi
theorem nvT {d:Ow} (h:d.Ty):d.Nv:=fun w hp i hi cs hb=>absurd (h w hp i hi _ _ hb) (by decide)
inductive Zv:List Ow->List Ow->Prop
 | z0 {L:List Ow}:Zv L L
 | s0 {c:Ow} {L M:List Ow}:c.Nv->Zv L M->Zv (c::L) M
section
variable {S:World->Prop} {u w w' w0:World} {gs:List Nat} {L L0:List Ow} {c:Ow} {g:Nat} {cs:List Value} {G:Nat->Prop}
theorem Hr.zv (E:Elq u w0 L0) (hb:Below w.heap.size w w') (hg:u.heap.size<=g) (hG:Blk w' g 25 cs.toArray):∀ {L:List Ow},Zv L L0->Hr S u gs w0 L w->Hr S u gs w0 (qB g 25 cs::L) w'
 | _,.z0,Z=>Z.z E hb hg hG
 | _,.s0 hd k,Z=>by
  have K:=Hr.zv E hb hg hG k (Z.re Hq.tl);have h:=Z.b hb;refine⟨⟨⟨K.H.S.1,fun i hi e he hei=>?_,h.H.S⟩,fun e he i hi=>?_,h.H.O⟩,h.cl,h.s⟩
  ·rcases List.mem_cons.1 he with rfl|he
   ·exact hd w' h.H.S.1 i hei _ (by have e:i=g:=hi;rw[e];exact K.H.S.1)
   ·exact K.H.S.2.1 i hi e he hei
  ·rcases List.mem_cons.1 he with rfl|he
   ·exact K.H.B _ (List.mem_cons_self ..) i hi
   ·exact h.H.B e he i hi
theorem Hr.ul (Z:Hr S u gs w0 (c::L) w) (U:UpL G w w') (hG:∀ i,G i->c.F i) (hn:∀ i,i∈gs->¬G i):Hr S u gs w0 L w':=⟨Z.H.ul U hG,Z.cl,Z.cl.up _ _ G U hn Z.s⟩
inductive Svs:List Ow->Prop
 | z0:Svs []
 | s0 {g:Nat} {cs:List Value} {L:List Ow}:Svs L->Svs (qB g 25 cs::L)
theorem Svs.at:∀ {L:List Ow},Svs L->∀ d,d∈L->∃ g cs,d=qB g 25 cs
 | _,.s0 k,d,hd=>by
  rcases List.mem_cons.1 hd with rfl|hd
  ·exact⟨_,_,rfl⟩
  ·exact k.at d hd
theorem Hq.adV {α:Type} {E:Elt α} {T:TypeId} {A:Option Addr} {n k:Nat} {css:List (List Value)} {xs:List α} {F:List Nat} (H:Hq w0 L w) (h:OX E w w0.heap.size T A n k css xs F) (s:Svs L:=by repeat constructor) (hT:T≠25:=by decide):Hq w0 (qX E w0.heap.size T A n k css xs F::L) w :=
 ⟨⟨h,fun i hi d hd hdi=>by
  obtain⟨g,cs,rfl⟩:=s.at d hd;have e:i=g:=hdi;subst e
  exact nvX hT w h i hi _ (H.S.get' hd),H.S⟩,fun d hd i hi=>by
  rcases List.mem_cons.1 hd with rfl|hd
  ·exact hi.elim (fun e=>(h.aj i e).1) (fun e=>(h.2.2.2.1.2 i e).1)
  ·exact H.B d hd i hi,H.O⟩
theorem Hr.adV {α:Type} {E:Elt α} {T:TypeId} {A:Option Addr} {n k:Nat} {css:List (List Value)} {xs:List α} {F:List Nat} (Z:Hr S u gs w0 L w) (h:OX E w w0.heap.size T A n k css xs F) (s:Svs L:=by repeat constructor) (hT:T≠25:=by decide):Hr S u gs w0 (qX E w0.heap.size T A n k css xs F::L) w:=Z.re fun H=>H.adV h s hT
end
theorem yGv {P Q:Prop} (k:Q) (h:Wr Q->P:=by
  intro q;intros
  repeat (first|(refine lE ?_;intro K hK;go_big_quiet_op;go_big_quiet_on)|refine lG ?_)
  refine kZ (by decide) ?_
  intro w' g hb hg hG hC K hK
  (try replace X5:=OX.below X5 hb)
  replace H:=Hr.zv E hb hg hG (by repeat (first|exact Zv.z0|refine Zv.s0 (by first|exact nvT qtO|exact nvX|exact nvR) ?_)) H
  go_simp
  refine hK _ ?_;clear hK K hb hG hC
  repeat (revert ‹Act->World->Prop›;have zz:=q;clear zz)
  revert w' g hg H
  exact q.o):P:=h ⟨k⟩
end
end Go.Proofs.YtjciicheoghcdaaGreatDoor
