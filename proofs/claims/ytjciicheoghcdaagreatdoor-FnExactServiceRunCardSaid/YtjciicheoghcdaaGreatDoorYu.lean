/- Part of the proof that the law FnExactServiceRun of the given program returns true for every input. -/
import Derived.Handy
import Derived.Test.YtjciicheoghcdaaGreatDoorYd
import Derived.Test.YtjciicheoghcdaaGreatDoorYg
import Derived.Test.YtjciicheoghcdaaGreatDoorYi
import Derived.Test.YtjciicheoghcdaaGreatDoorYk
import Derived.Test.YtjciicheoghcdaaGreatDoorYo
import Derived.Test.YtjciicheoghcdaaGreatDoorYt
namespace Go.Proofs.YtjciicheoghcdaaGreatDoor
open Go.RowKit
set_option linter.unusedSimpArgs false
set_option linter.unusedVariables false
set_option maxRecDepth 20000
set_option maxHeartbeats 16000000
section
section
variable {G G':Nat->Prop} {u w w':World} {base n c g b:Nat} {A:Option Addr} {xs:List Int} {t:TypeId} {cs:Array Value}
theorem OS.cellAt (h:OS w base (some ⟨g,0,none⟩) n c xs) {i:Nat} (hi:i<n):w.cell? ⟨g,i,none⟩=some (.int .i64 (xs.getD i 0)):=by
 obtain ⟨b,off,e,_,hc⟩:=h.si.2 (by omega)
 injection e with e;injection e with e1 e2;subst e1 e2;have:=hc i hi
 rwa [Nat.zero_add] at this
theorem OS.Dq {f f':Nat->Int} (h:OS w base (some ⟨g,0,none⟩) n c (fl f n)) {i:Nat} (hi:i<n) (v:Int) (hf:∀ k,k<n->f' k=if k=i then v else f k):OS (w.setCell ⟨g,i,none⟩ (.int .i64 v)) base (some ⟨g,0,none⟩) n c (fl f' n):=by
 have h2:=(World.ownsRow.stored h i (.int .i64 v)).1;rw [<- List.map_set] at h2;have e:(fl f n).set i v=fl f' n:=by
  apply List.ext_getElem
  ·simp [aD]
  ·intro k hk _;have hk':k<n:=by simpa [aD] using hk
   rw [List.getElem_set];simp only [fl,List.getElem_map,List.getElem_range];rw [hf k hk']
   by_cases hik:i=k
   ·subst hik;simp
   ·simp [hik,Ne.symm hik]
 rw [e] at h2
 exact h2
theorem OS.far (h:OS w base A n c xs) {p:Addr} (hp:blk A≠some p.block) (v:Value):OS (w.setCell p v) base A n c xs :=
 h.au (by simp [World.setCell]) fun j hj _=>Below.heap_setCell w p v j (fun e=>hp (by rw [<- e];exact hj))
end
structure F2 (G:Nat->Prop) (u:World) (base g h n cg ch:Nat) (f1 f2:Nat->Int) (w:World):Prop where
 one:OS w base (some ⟨g,0,none⟩) n cg (fl f1 n)
 two:OS w base (some ⟨h,0,none⟩) n ch (fl f2 n)
 ne:g≠h
 up:UpL G u w
 hg:G g
 hh:G h
section
variable {G:Nat->Prop} {u w w' w0:World} {base g h n cg ch b i o:Nat} {f1 f2 f1' f2':Nat->Int} {t:TypeId} {cs:Array Value}
theorem F2.os (H:F2 G u base g h n cg ch f1 f2 w) {A:Option Addr} {m c:Nat} {xs:List Int} {bs:Nat} (hA:OS u bs A m c xs) (hn:∀ i,blk A=some i->¬ G i):OS w bs A m c xs:=hA.up H.up hn
theorem F2.below (H:F2 G u base g h n cg ch f1 f2 w) (hb:Below w.heap.size w w'):F2 G u base g h n cg ch f1 f2 w':=⟨H.one.below hb,H.two.below hb,H.ne,H.up.below hb,H.hg,H.hh⟩
theorem F2.put (H:F2 G u base g h n cg ch f1 f2 w) (hi:i<n) (x y:Int) (h1:∀ k,k<n->f1' k=if k=i then x else f1 k) (h2:∀ k,k<n->f2' k=if k=i then y else f2 k):F2 G u base g h n cg ch f1' f2' ((w.setCell ⟨g,i,none⟩ (.int .i64 x)).setCell ⟨h,i,none⟩ (.int .i64 y)) :=
 ⟨(H.one.Dq hi x h1).far (fun e=>H.ne (by injection e)) _,(H.two.far (fun e=>H.ne (by injection e with e;exact e.symm)) _).Dq hi y h2,H.ne,(H.up.Bc _ _ (fun _=>H.hg)).Bc _ _ (fun _=>H.hh),H.hg,H.hh⟩
theorem F2.bR (H:F2 G u base g h n cg ch f1 f2 w) {A:Option Addr} (k:bJ A w w') (hA:∀ i,blk A=some i->u.heap.size<=i) (h1:g<u.heap.size) (h2:h<u.heap.size):F2 G u base g h n cg ch f1 f2 w' :=
 ⟨H.one.bR k (fun x e1 e2=>by have:=hA x e2;injection e1 with e1;subst e1;dsimp only at this;omega),H.two.bR k (fun x e1 e2=>by have:=hA x e2;injection e1 with e1;subst e1;dsimp only at this;omega),H.ne,H.up.bR k (fun i hi e=>absurd hi (by have:=hA i e;omega)),H.hg,H.hh⟩
theorem F2.blk (H:F2 G u base g h n cg ch f1 f2 w) (hb:Blk u b t cs) (hn:¬ G b):Blk w b t cs:=hb.up H.up hn
theorem F2.over (H:F2 G u base g h n cg ch f1 f2 w) (hb:Below base w0 u) (hG:∀ i,i<u.heap.size->G i->base<=i) (hB:base<=u.heap.size):Below base w0 w:=H.up.over hb hG hB
end
theorem BK {u:World} (L:List Nat) (hL:∀ i,i∈L->i<u.heap.size):∃ S:World->Prop,Hid (∀ w',Below u.heap.size u w'->S w')/\(∀ w' (p:Addr) v,p.block∉L->S w'->S (w'.setCell p v))/\(∀ w' o,S w'->S (w'.alloc o)) /\
  (∀ w' w'' G,UpL G w' w''->(∀ i,i∈L->¬ G i)->S w'->S w'')/\Hid (∀ x:Wd S,∀ i,i∈L->∀ o,x.w.cell? ⟨i,o,none⟩=u.cell? ⟨i,o,none⟩):=by
 refine ⟨fun w'=>∀ i,i∈L->i<w'.heap.size/\w'.heap[i]?=u.heap[i]?,fun w' hb i hi=>⟨Nat.lt_of_lt_of_le (hL i hi) hb.size,hb.block i (hL i hi)⟩,fun w' p v hp h i hi=> ?_,fun w' o h i hi=> ?_,fun w' w'' G hu hG h i hi=> ?_,fun x i hi o=> ?_⟩
 ·obtain ⟨h1,h2⟩:=h i hi
  exact ⟨by simpa [World.setCell] using h1,(Below.heap_setCell w' p v i (fun e=>hp (e ▸ hi))).trans h2⟩
 ·obtain ⟨h1,h2⟩:=h i hi
  exact ⟨by simp;omega,(Below.heap_alloc w' o i h1).trans h2⟩
 ·obtain ⟨h1,h2⟩:=h i hi
  exact ⟨Nat.lt_of_lt_of_le h1 hu.size,(hu.block i h1 (hG i hi)).trans h2⟩
 ·obtain ⟨_,h2⟩:=x.h i hi
  exact World.cell?_of_block (w:=u) h2
end
section
attribute [local go_sem] af ah ae
def LV (w:World) (l:PL) (v:Value):Prop:=∃ A c F,RI mxE w A l.2.length c l.2 F/\LOv w l.1 A l.2.length c l.2 v
theorem LOv.below {w w':World} {k:Int} {A:Option Addr} {n cap:Nat} {ms:List Mx} {v:Value} (h:LOv w k A n cap ms v) (hb:Below w.heap.size w w'):LOv w' k A n cap ms v:=by
 rcases h with h | ⟨h0,h | h | h⟩
 ·exact .inl h
 ·obtain ⟨h1,A0,p0,F0,A1,p1,F1,m0,m1,e0,e1,f0,f1,hv⟩:=h
  exact .inr ⟨h0,.inl ⟨h1,A0,p0,F0,A1,p1,F1,m0,m1,e0,e1,f0.au (fun g hg=>hb.block g (f0.lt g hg)),f1.au (fun g hg=>hb.block g (f1.lt g hg)),hv⟩⟩
 ·exact .inr ⟨h0,.inr (.inl h)⟩
 ·exact .inr ⟨h0,.inr (.inr h)⟩
theorem LOv.iface {w:World} {k:Int} {A:Option Addr} {n cap:Nat} {ms:List Mx} {v:Value} (h:LOv w k A n cap ms v) (hl:aL k ms=true):∃ T x,v= .iface T x:=by
 rcases h with h | ⟨_,h | h | h⟩
 ·rw [hl] at h;cases h.1
 ·obtain ⟨_,_,_,_,_,_,_,_,_,_,_,_,_,rfl⟩:=h
  exact ⟨_,_,rfl⟩
 ·exact ⟨_,_,h.2⟩
 ·exact ⟨_,_,h.2⟩
theorem ud {l:PL} (h:aL l.1 l.2=true):l.2.length<=3:=by
 rcases eM h with ⟨_,a,b,e,_⟩ | ⟨_,e⟩ | ⟨_,a,b,c,e,_⟩ <;> rw [e] <;> simp
theorem LV.below {w w':World} {l:PL} {v:Value} (h:LV w l v) (hb:Below w.heap.size w w'):LV w' l v:=by
 obtain ⟨A,c,F,h1,h2⟩:=h
 exact ⟨A,c,F,h1.below hb,h2.below hb⟩
def LR (w:World) (net:List PL) (j:Nat) (vs:List Value):Prop:=vs.length=j/\∀ i l v,i<j->net[i]?=some l->vs[i]?=some v->LV w l v
theorem LR.below {w w':World} {net:List PL} {j:Nat} {vs:List Value} (h:LR w net j vs) (hb:Below w.heap.size w w'):LR w' net j vs:=⟨h.1,fun i l v hi hl hv=>(h.2 i l v hi hl hv).below hb⟩
theorem LR.push {w:World} {net:List PL} {j:Nat} {vs:List Value} {l:PL} {v:Value} (h:LR w net j vs) (hl:net[j]?=some l) (hv:LV w l v):LR w net (j+1) (vs++[v]):=by
 refine ⟨by rw [List.length_append,h.1];rfl,fun i l' v' hi hl' hv'=> ?_⟩
 by_cases e:i=j
 ·subst e;rw [hl] at hl';injection hl' with e1;subst e1;rw [List.getElem?_append_right (by rw [h.1];omega),h.1,Nat.sub_self] at hv'
  injection hv' with e2;subst e2
  exact hv
 ·rw [List.getElem?_append_left (by rw [h.1];omega)] at hv'
  exact h.2 i l' v' (by omega) hl' hv'
theorem Ao:(Tryz.prog.info? 110).map (fun i=>(i.zero,i.size,i.bytes))=some (some .nilIface,1,16):=by kernel_rfl
theorem ze (n:Nat) (hn:n<=1048576) (w:World):(Instr.makeSlice 105 (.int .i64 (n:Int)) (.int .i64 (n:Int))).run Tryz.prog w= .ok (.slice (some ⟨w.heap.size,0,none⟩) n n) (w.alloc (.cells (madeCells #[.nilIface] (n*1)) 110)):=by
 obtain ⟨i,hi,hz,h1,h8⟩:=info_parts Ao;have h:=run_make (P:=Tryz.prog) w 105 110 i _ Tryz.underlying105 hi hz .i64 .i64 (n:Int) (n:Int) (by omega) (Int.le_refl _) (by rw [h8];omega) (by omega)
 rw [h,h1];simp only [Int.toNat_natCast]
 rfl
def Cr (net:List PL) (w:World) (e:Ending) (w':World):Prop:=∃ g vs,e= .returned (.tuple #[.slice (some ⟨g,0,none⟩) net.length net.length,.bool true])/\VO w' w.heap.size 110 1 (some ⟨g,0,none⟩) net.length net.length vs/\LR w net net.length vs/\Below w.heap.size w w'
theorem By (n:Nat):(List.replicate n ([Value.nilIface])).flatten=List.replicate n Value.nilIface:=by
 induction n with
 | zero=>rfl
 | succ n ih=>rw [List.replicate_succ,List.flatten_cons,ih];rfl
theorem hM {net:List PL} (hv:tb net) {A:Option Addr} {cap:Nat} {F:List Nat} (w:World) (hx:RI (kE mxE) w A net.length cap net F) (hms:∀ l,l∈net->∀ m,m∈l.2->mS m) :
  Calls Tryz.prog 62 #[.slice A net.length cap] w (Cr net w):=by
 obtain ⟨n,hn⟩:∃ n,n=net.length:=⟨_,rfl⟩;have h4:n<=4:=by rw [hn];exact hv.1
 rw [<- hn] at hx ⊢;have t4:(n:Int)<=4:=by omega
 have hmk:=fun W:World=>ze n (by omega) W
 obtain ⟨OB,hO⟩:∃ OB,OB=(Obj.cells (madeCells #[.nilIface] (n*1)) 110):=⟨_,rfl⟩;have H0:Hid (VO (w.alloc OB) w.heap.size 110 1 (some ⟨w.heap.size,0,none⟩) n n ([]++List.replicate (n-0) Value.nilIface)):=by
  have h:=VO.made w 110 #[.nilIface] (by decide) n (by unfold maxLen;omega)
  rw [<- By,hO]
  exact h
 have B0:Hid (Below w.heap.size w (w.alloc OB)):=(Below.refl _ _).alloc (Nat.le_refl _) _;rw [<- hO] at hmk;have HV:=Lib.hid hv;have HX:=Lib.hid hx;have HMS:=Lib.hid hms;have HN:=Lib.hid hn;clear hO hv hx hms hn
 go_enter Tryz.func62,Tryz.ntmps62
 go_wp2
 go_loopw [17] (fun i wr=>∃ (j:Nat) (vs:List Value),j<=n/\i= .int .i64 j/\Hid (VO wr w.heap.size 110 1 (some ⟨w.heap.size,0,none⟩) n n (vs++List.replicate (n-j) Value.nilIface))/\Hid (LR w net j vs)/\Hid (Below w.heap.size w wr)) (fun i _=>n-(intOf i).toNat)
 case atStart=>exact ⟨0,[],Nat.zero_le _,rfl,H0,⟨rfl,fun i l v hi=>absurd hi (by omega)⟩,B0⟩
 case round =>
 clear H0 B0 hmk;obtain ⟨j,vs,hj,rfl,hvo,hlr,hob⟩:=hrel
 by_cases hlt:j<n
 ·obtain ⟨l,hlj,hmem⟩:=aH (xs:=net) (j:=j) (by have:=HN.out;omega)
  have HLJ:=Lib.hid hlj;have HMEM:=Lib.hid hmem;clear hlj hmem;obtain ⟨b,off,cs,Fx,rfl,hbl,hc,_,Aw,cw,rfl,hrw⟩:=HX.out.cells HLJ.out 2 rfl;have d0:wr.cell? ⟨b,off+j*2,none⟩=some (.int .i64 l.1):=(hob.out.cell (p:=⟨b,off+j*2,none⟩) hbl).trans (hc 0 (by omega))
  have d1:wr.cell? ⟨b,off+j*2+1,none⟩=some (.slice Aw l.2.length cw):=(hob.out.cell (p:=⟨b,off+j*2+1,none⟩) hbl).trans (hc 1 (by omega))
  have zb:b<wr.heap.size:=Nat.lt_of_lt_of_le hbl hob.out.size;have k0:(0:Int)<=(j:Int):=by omega
  have k1:(j:Int)<(n:Int):=by omega
  have HRW:=Lib.hid hrw;clear hc hrw;have HB1:=Lib.hid ((Below.refl wr.heap.size wr).alloc (Nat.le_refl _) (.cells #[.int .i64 l.1,.slice Aw l.2.length cw] 80));have hl25:l.2.length<=1048576:=by have:=ud (HV.out.2 l HMEM.out);omega
  go_wp2_with fail
  refine (lj l.1 Aw l.2.length cw l.2 _ w _ HRW.out (hob.out.trans (HB1.out.mono hob.out.size)) (HMS.out l HMEM.out) hl25).mono ?_;rintro e w5 ⟨v,rfl,hlv,hb⟩;rw [HV.out.2 l HMEM.out];obtain ⟨Tv,xv,rfl⟩:=hlv.iface (HV.out.2 l HMEM.out);obtain ⟨v,hvv⟩:∃ v,v=Value.iface Tv xv:=⟨_,rfl⟩;rw [<- hvv] at hlv;have hb2:Below wr.heap.size wr w5:=HB1.out.trans (hb.mono HB1.out.size);have hLV:LV w l v:=⟨Aw,cw,_,HRW.out,hlv⟩;have hvo5:=hvo.out.below hb2;have hlr5:=hlr.out;have hln:=hlr5.1;have hrep:List.replicate (n-j) Value.nilIface= .nilIface::List.replicate (n-(j+1)) .nilIface:=by rw [show n-j=(n-(j+1))+1 by omega];rfl
  rw [hrep] at hvo5;have cg:w5.cell? ⟨w.heap.size,j,none⟩=some .nilIface:=by
   rw [hvo5.cell j (by omega),List.getElem?_append_right (by omega),hln,Nat.sub_self];rfl
  have fg:=hvo5.frozen j;have zg:=(hvo5.aj _ rfl).2;have hst:=hvo5.store j v;rw [List.set_append_right _ _ (by omega),hln,Nat.sub_self,List.set_cons_zero] at hst
  have HST:Hid (VO (w5.setCell ⟨w.heap.size,j,none⟩ v) w.heap.size 110 1 (some ⟨w.heap.size,0,none⟩) n n ((vs++[v])++List.replicate (n-(j+1)) Value.nilIface)):=by rw [List.append_assoc];exact hst
  have HBN:Hid (Below w.heap.size w (w5.setCell ⟨w.heap.size,j,none⟩ v)):=(hob.out.trans (hb2.mono hob.out.size)).setCell (Nat.le_refl _) _;have HLP:=Lib.hid (hlr5.push HLJ.out hLV);clear hst hvo5 hlr5 hLV hlv hb hb2;subst hvv;clear hrep hln HB1 HRW;go_wp2
  go_roundw
  case rel=>exact ⟨j+1,vs++[.iface Tv xv],by omega,by go_num,HST,HLP,HBN⟩
  case measure=>simp [intOf];omega
 ·obtain rfl:j=n:=by omega
  rw [Nat.sub_self,List.replicate_zero,List.append_nil] at hvo;go_wp2
  go_ret2
  exact ⟨w.heap.size,vs,by rw [<- HN.out];rfl,by rw [<- HN.out];exact hvo.out,by rw [<- HN.out];exact hlr.out,hob.out⟩
end
section
attribute [local go_sem] af ah ae
theorem LV.cases {w:World} {l:PL} {v:Value} (h:LV w l v) (hl:aL l.1 l.2=true) :
  (∃ a b A0 p0 A1 p1,l=(1,[a,b])/\(mvB a=true/\mvB b=true/\b.c=1/\b.r=a.r)/\RM w (MV a.r a.c A0 a.v.length p0) a/\RM w (MV b.r b.c A1 b.v.length p1) b/\v= .iface 178 (.agg #[.int .i64 a.r,.int .i64 a.c,.slice A0 a.v.length p0,.int .i64 b.r,.int .i64 b.c,.slice A1 b.v.length p1])) \/
  (l=(2,[])/\v= .iface 180 (.agg #[])) \/
  (∃ a b c g off cap F,l=(3,[a,b,c])/\(mvB a=true/\mvB b=true/\mvB c=true/\a.r=a.c/\b.r=a.c/\b.c=a.c/\c.r=a.c/\c.c=a.c)/\RI mxE w (some ⟨g,off,none⟩) 3 cap [a,b,c] F/\(g<w.heap.size/\w.cell? ⟨g,off,none⟩=some (.int .i64 a.r))/\v= .iface 183 (.agg #[.slice (some ⟨g,off,none⟩) 3 cap])):=by
 obtain ⟨A,c,F,hr,h⟩:=h;obtain ⟨k,ms⟩:=l
 dsimp only at hl hr h
 rcases h with h | ⟨_,h | h | h⟩
 ·rw [hl] at h;cases h.1
 ·obtain ⟨rfl,A0,p0,F0,A1,p1,F1,m0,m1,e0,e1,f0,f1,hv⟩:=h;rcases eM (l:=(1,ms)) hl with ⟨_,a,b,e,h1,h2,h3,h4⟩ | ⟨e,_⟩ | ⟨e,_⟩
  ·dsimp only at e
   subst e;injection e0 with e0;injection e1 with e1;subst e0;subst e1
   exact .inl ⟨a,b,A0,p0,A1,p1,rfl,⟨h1,h2,h3,h4⟩,RM.mk f0.1 f0.2.1 f0.2.2.1,RM.mk f1.1 f1.2.1 f1.2.2.1,hv⟩
  ·cases e
  ·cases e
 ·obtain ⟨rfl,hv⟩:=h;rcases eM (l:=(2,ms)) hl with ⟨e,_⟩ | ⟨_,e⟩ | ⟨e,_⟩
  ·cases e
  ·dsimp only at e
   subst e
   exact .inr (.inl ⟨rfl,hv⟩)
  ·cases e
 ·obtain ⟨rfl,hv⟩:=h;rcases eM (l:=(3,ms)) hl with ⟨e,_⟩ | ⟨e,_⟩ | ⟨_,a,b,c',e,h1⟩
  ·cases e
  ·cases e
  ·dsimp only at e
   subst e;obtain ⟨g,off,cs,F',rfl,hg,hc,_,A1,p1,rfl,_⟩:=hr.cells (i:=0) (x:=a) rfl 3 rfl
   exact .inr (.inr ⟨a,b,c',g,off,c,F,rfl,h1,hr,⟨hg,by have:=hc 0 (by omega);simpa using this⟩,hv⟩)
def okR:Option (Int×Int)->Int->Int->Bool->Prop
 | some rc,x,y,ok=>ok=true/\x=rc.1/\y=rc.2
 | none,_,_,ok=>ok=false
def NSd (b:Bool) (w:World) (e:Ending) (w':World):Prop:=∃ x y:Int,e= .returned (.tuple #[.int .i64 x,.int .i64 y,.bool b])/\Below w.heap.size w w'
theorem eo {net:List PL} (hv:tb net) {A:Option Addr} {cap:Nat} {F:List Nat} {r c:Int} (hr:side r=true) (hc:side c=true) (w:World) (hx:RI (kE mxE) w A net.length cap net F) (hms:∀ l,l∈net->∀ m,m∈l.2->mS m) :
  Calls Tryz.prog 61 #[.slice A net.length cap,.int .i64 r,.int .i64 c] w (NSd (bE net (some (r,c))).isSome w):=by
 have HV:=Lib.hid hv;have HX:=Lib.hid hx;have HMS:=Lib.hid hms;clear hv hx hms
 go_enter Tryz.func61,Tryz.ntmps61
 go_wp2_with fail
 refine (dj hr w).mono ?_;rintro e w' ⟨rfl,rfl⟩
 go_wp2_with fail
 refine (dj hc w).mono ?_;rintro e w' ⟨rfl,rfl⟩
 go_wp2_with fail
 refine (hM HV.out w HX.out HMS.out).mono ?_;rintro e w1 ⟨g,vs,rfl,hvo,hlr,hb⟩;obtain ⟨n,hn⟩:∃ n,n=net.length:=⟨_,rfl⟩;rw [<- hn] at hvo hlr ⊢;have HVO:=Lib.hid hvo;have HLR:=Lib.hid hlr;have HB:=Lib.hid hb;have h4:n<=4:=by rw [hn];exact HV.out.1
 have HN:=Lib.hid hn;have H0:Hid (okR (bE (net.take 0) (some (r,c))) r c true):=⟨rfl,rfl,rfl⟩;clear hvo hlr hb hn HX;go_wp2
 go_loopw [1,2,10,28] (fun x y o i wr=>∃ (j:Nat) (a b:Int) (ok:Bool),j<=n/\x= .int .i64 a/\y= .int .i64 b/\o= .bool ok/\i= .int .i64 j/\Hid (okR (bE (net.take j) (some (r,c))) a b ok)/\Hid (Below w1.heap.size w1 wr)) (fun _ _ _ i _=>n-(intOf i).toNat)
 case atStart=>exact ⟨0,r,c,true,Nat.zero_le _,rfl,rfl,rfl,rfl,H0,Below.refl _ _⟩
 case round =>
 clear H0;obtain ⟨j,x,y,ok,hj,rfl,rfl,rfl,rfl,hok,hob⟩:=hrel
 by_cases hlt:j<n
 ·obtain ⟨l,hlj,hmem⟩:=aH (xs:=net) (j:=j) (by have:=HN.out;omega)
  have HLJ:=Lib.hid hlj;have hlen:=HLR.out.1;obtain ⟨v,hvj,_⟩:=aH (xs:=vs) (j:=j) (by omega)
  have hlv:=HLR.out.2 j l v hlt hlj hvj;have hla:=HV.out.2 l hmem;have cv:=(hob.out.cell (p:=⟨g,j,none⟩) (HVO.out.aj _ rfl).2).trans ((HVO.out.cell j (by omega)).trans hvj)
  have zg:=Nat.lt_of_lt_of_le (HVO.out.aj _ rfl).2 hob.out.size;have hwr:Below w.heap.size w wr:=HB.out.trans (hob.out.mono HB.out.size);have zow:=hwr.size;clear hlj hmem hvj hlen
  cases ok
  ·have HS1:Hid (okR (bE (net.take (j+1)) (some (r,c))) x y false):=by
    rw [eh HLJ.out];have h:=hok.out
    cases e:bE (net.take j) (some (r,c)) with
    | none=>rfl
    | some rc=>rw [e] at h;cases h.1
   clear hok;rcases hlv.cases hla with ⟨_,_,_,_,_,_,_,_,_,_,rfl⟩ | ⟨_,rfl⟩ | ⟨_,_,_,_,_,_,_,_,_,_,_,rfl⟩
   all_goals
    clear hlv hla HLJ;go_wp2
    go_roundw
    case rel=>exact ⟨j+1,x,y,false,by omega,rfl,rfl,rfl,by go_num,HS1,hob⟩
    case measure=>simp [intOf];omega
  ·have hs:bE (net.take j) (some (r,c))=some (x,y):=by
    have h:=hok.out
    cases e:bE (net.take j) (some (r,c)) with
    | none=>rw [e] at h;cases h
    | some rc=>rw [e] at h;obtain ⟨_,rfl,rfl⟩:=h;rfl
   clear hok;have HS1:Hid (bE (net.take (j+1)) (some (r,c))=dr l (x,y)):=by rw [Hid,eh HLJ.out,hs];rfl
   clear hs HLJ;rcases hlv.cases hla with ⟨a,b,A0,p0,A1,p1,rfl,hm,_,_,rfl⟩ | ⟨rfl,rfl⟩ | ⟨a,b,c',gm,om,cm,Fm,rfl,hm,_,hgc,rfl⟩
   ·have HS2:Hid (okR (bE (net.take (j+1)) (some (r,c))) a.r y (a.c == x)):=by rw [Hid,HS1.out];unfold dr;rw [if_pos rfl];simp only [List.getD_cons_zero];by_cases e:a.c=x <;> simp [okR,e]
    clear hlv hla HS1 hm
    go_wp2_with fail
    refine (jq _ _ _ _ _ _ _ _ wr).mono ?_;rintro e w2 ⟨rfl,hb⟩;have HO2:Hid (Below w1.heap.size w1 w2):=hob.out.trans (hb.mono hob.out.size);clear hb;go_wp2
    go_roundw
    case rel=>exact ⟨j+1,a.r,y,(a.c == x),by omega,rfl,rfl,rfl,by go_num,HS2,HO2⟩
    case measure=>simp [intOf];omega
   ·have HS2:Hid (okR (bE (net.take (j+1)) (some (r,c))) x y true):=by rw [Hid,HS1.out];unfold dr;rw [if_neg (by decide),if_pos rfl];simp [okR]
    clear hlv hla HS1
    go_wp2_with fail
    refine (kj _ _ wr).mono ?_;rintro e w2 ⟨rfl,hb⟩;have HO2:Hid (Below w1.heap.size w1 w2):=hob.out.trans (hb.mono hob.out.size);clear hb;go_wp2
    go_roundw
    case rel=>exact ⟨j+1,x,y,true,by omega,rfl,rfl,rfl,by go_num,HS2,HO2⟩
    case measure=>simp [intOf];omega
   ·have HS2:Hid (okR (bE (net.take (j+1)) (some (r,c))) x y (a.r == y)):=by rw [Hid,HS1.out];unfold dr;rw [if_neg (by simp),if_neg (by simp)];simp only [List.getD_cons_zero];by_cases e:a.r=y <;> simp [okR,e]
    clear hlv hla HS1 hm
    go_wp2_with fail
    refine (DL _ _ _ wr (Nat.lt_of_lt_of_le hgc.1 zow) ((hwr.cell (p:=⟨gm,om,none⟩) hgc.1).trans hgc.2)).mono ?_;rintro e w2 ⟨rfl,hb⟩;have HO2:Hid (Below w1.heap.size w1 w2):=hob.out.trans (hb.mono hob.out.size);clear hb;go_wp2
    go_roundw
    case rel=>exact ⟨j+1,x,y,(a.r == y),by omega,rfl,rfl,rfl,by go_num,HS2,HO2⟩
    case measure=>simp [intOf];omega
 ·obtain rfl:j=n:=by omega
  have hs:=hok.out;rw [List.take_of_length_le (by have:=HN.out;omega)] at hs
  have hwr:Below w.heap.size w wr:=HB.out.trans (hob.out.mono HB.out.size);obtain ⟨hss⟩:Nonempty (Hid (ok=(bE net (some (r,c))).isSome)):=by
   refine ⟨?_⟩
   cases e:bE net (some (r,c)) with
   | none=>rw [e] at hs;exact hs
   | some rc=>rw [e] at hs;exact hs.1
  clear hs hok
  cases ok
  ·go_wp2
   exact bodyPost_ret (v:= .tuple #[.int .i64 0,.int .i64 0,.bool false]) (by simp [results,Tryz.results61,go_sem]) rfl ⟨0,0,by rw [<- hss.out],hwr⟩
  ·go_wp2
   exact bodyPost_ret (v:= .tuple #[.int .i64 x,.int .i64 y,.bool true]) (by simp [results,Tryz.results61,go_sem]) rfl ⟨x,y,by rw [<- hss.out],hwr⟩
attribute [local go_sem] NV lkN Nd.add cpN scN
theorem wF {l:PL} (hl:aL l.1 l.2=true) {x y:Int} (hx:side x=true) (hy:side y=true):nB (ndL l (x,y)) 1000:=by
 obtain ⟨p1,p2⟩:=dh hx hy;obtain ⟨p3,p4⟩:=dh hx hx;obtain ⟨p5,p6⟩:=dh hy hy;obtain ⟨p7,p8⟩:=bI hx;rcases eM hl with ⟨h1,a,b,e,h2,_⟩ | ⟨h1,e⟩ | ⟨h1,a,b,c,e,_⟩
 ·have:ndL l (x,y)=cpN a.r x y:=by unfold ndL;rw [if_pos h1,e];rfl
  rw [this]
  exact (nB.cp (aA h2).1 hx hy).le (by omega)
 ·have:ndL l (x,y)=lkN (x*y):=by unfold ndL;rw [if_neg (by omega),if_pos h1]
  rw [this]
  exact (nB.lk (by omega) (by omega)).le (by omega)
 ·unfold ndL;rw [if_neg (by omega),if_neg (by omega)]
  constructor <;> dsimp only <;> omega
theorem rC {net:List PL} (hv:tb net) {A:Option Addr} {cap:Nat} {F:List Nat} {r c:Int} (hr:side r=true) (hc:side c=true) (hs:(bE net (some (r,c))).isSome=true) (w:World) (hx:RI (kE mxE) w A net.length cap net F) (hms:∀ l,l∈net->∀ m,m∈l.2->mS m) :
  Calls Tryz.prog 128 #[.slice A net.length cap,.int .i64 r,.int .i64 c] w (fb (ndN net (Nd.z,some (r,c))).1 w):=by
 have HV:=Lib.hid hv;have HX:=Lib.hid hx;have HMS:=Lib.hid hms;have HS:=Lib.hid hs;have HR:=Lib.hid hr;have HC:=Lib.hid hc;clear hv hx hms hs hr hc
 go_enter Tryz.func128,Tryz.ntmps128
 go_wp2_with fail
 obtain ⟨uw1,hu⟩:∃ u,u=(w.alloc (.cells #[.int .i64 0,.int .i64 0,.int .i64 0,.int .i64 0] 92)):=⟨_,rfl⟩;rw [<- hu];have B1:Blk uw1 (w.heap.size) 92 #[.int .i64 0,.int .i64 0,.int .i64 0,.int .i64 0]:=Blk.cast hu (Blk.iA (by first | omega | (simp;done) | (simp;omega)))
 have O:Below w.heap.size w uw1:=Below.cast hu ((Below.refl _ _).alloc (by first | omega | (simp;done) | (simp;omega)) _)
 have mw:=O.size;clear hu;refine (eo HV.out HR.out HC.out uw1 (HX.out.below O) HMS.out).mono ?_;rintro e w2 ⟨x0,y0,rfl,hb⟩;replace B1:=B1.aa hb;replace O:=O.trans (hb.mono mw);replace mw:=O.size;rw [HS.out];clear hb;obtain ⟨z1,c1_0,f1_0,c1_1,f1_1,c1_2,f1_2,c1_3,f1_3⟩:=B1.f4
 go_wp2_with fail
 refine (hM HV.out w2 (HX.out.below O) HMS.out).mono ?_;rintro e w3 ⟨g,vs,rfl,hvo,hlr,hb⟩;have HB3:=Lib.hid hb;replace B1:=B1.aa hb;replace O:=O.trans (hb.mono mw);replace mw:=O.size;clear z1 c1_0 f1_0 c1_1 f1_1 c1_2 f1_2 c1_3 f1_3;clear hb;obtain ⟨z1,c1_0,f1_0,c1_1,f1_1,c1_2,f1_2,c1_3,f1_3⟩:=B1.f4;have HB1:=Lib.hid B1;have HOB:=Lib.hid O;go_wp2;obtain ⟨uw4,hu⟩:∃ u,u=(w3.alloc (.cells #[.int .i64 0,.int .i64 0,.int .i64 0,.int .i64 0] 92)):=⟨_,rfl⟩;rw [<- hu];replace B1:=Blk.cast hu (B1.alloc _);have B2:Blk uw4 (w3.heap.size) 92 #[.int .i64 0,.int .i64 0,.int .i64 0,.int .i64 0]:=Blk.cast hu (Blk.iA (by first | omega | (simp;done) | (simp;omega)))
 have xb2:w.heap.size<=w3.heap.size:=by omega
 have y1_2:w.heap.size<w3.heap.size:=by omega
 replace O:=Below.cast hu (O.alloc (by first | omega | (simp;done) | (simp;omega)) _)
 replace mw:=O.size;clear z1 c1_0 f1_0 c1_1 f1_1 c1_2 f1_2 c1_3 f1_3;have HB0:Hid (Below w3.heap.size w3 uw4):=Below.cast hu ((Below.refl _ _).alloc (Nat.le_refl _) _);clear hu;obtain ⟨n,hn⟩:∃ n,n=net.length:=⟨_,rfl⟩;rw [<- hn] at hvo hlr ⊢;have HVO:=Lib.hid hvo;have HLR:=Lib.hid hlr;have h4:n<=4:=by rw [hn];exact HV.out.1
 have HN:=Lib.hid hn;have hgA:w.heap.size<w3.heap.size:=HB1.out.lt;have hg:g<w3.heap.size:=(hvo.aj _ rfl).2;have H0:Hid (ndN (net.take 0) (Nd.z,some (r,c))=(Nd.z,some (r,c))):=rfl;have HB2:=Lib.hid B2;clear hvo hlr hn HX B1 B2 O mw
 go_loopw [1,2,33] (fun x y i wr=>∃ (j:Nat) (a b:Int) (Z:Nd),j<=n/\x= .int .i64 a/\y= .int .i64 b/\i= .int .i64 j/\Hid (ndN (net.take j) (Nd.z,some (r,c))=(Z,some (a,b))/\side a=true/\side b=true/\nB Z (1000*j))/\Hid (Blk wr w3.heap.size 92 #[.int .i64 Z.a,.int .i64 Z.b,.int .i64 Z.c,.int .i64 Z.d])/\Hid (Below w3.heap.size w3 wr)) (fun _ _ i _=>n-(intOf i).toNat)
 case atStart=>exact ⟨0,r,c,Nd.z,Nat.zero_le _,rfl,rfl,rfl,⟨H0,HR.out,HC.out,nB.z⟩,HB2,HB0⟩
 case round =>
 clear H0 HB0 HB2;obtain ⟨j,x,y,Z,hj,rfl,rfl,rfl,hz,BA,O⟩:=hrel;obtain ⟨hz1,sx,sy,hz2⟩:=hz.out;have BA:=BA.out;have O:=O.out;have mw:=O.size
 by_cases hlt:j<n
 ·obtain ⟨l,hlj,hmem⟩:=aH (xs:=net) (j:=j) (by have:=HN.out;omega)
  have hlen:=HLR.out.1;obtain ⟨v,hvj,_⟩:=aH (xs:=vs) (j:=j) (by omega)
  have hlv:=HLR.out.2 j l v hlt hlj hvj;have hla:=HV.out.2 l hmem;have cv:=(O.cell (p:=⟨g,j,none⟩) hg).trans ((HVO.out.cell j (by omega)).trans hvj)
  have zg:=Nat.lt_of_lt_of_le hg O.size;have hnd:=wF hla sx sy;obtain ⟨Z1,hZ1⟩:∃ Z1,Z1=Z.add (ndL l (x,y)):=⟨_,rfl⟩;have hzz:=rW hlj (Nd.z,some (r,c));rw [hz1] at hzz
  dsimp only at hzz
  rw [<- hZ1] at hzz;have hq:∃ x' y',dr l (x,y)=some (x',y'):=by
   cases e:dr l (x,y) with
   | none =>
    have h1:bE (net.take (j+1)) (some (r,c))=none:=by rw [<- qo _ (Nd.z,some (r,c)),hzz];exact e
    have h2:=HS.out;rw [gJ h1] at h2
    cases h2
   | some rc=>exact ⟨rc.1,rc.2,rfl⟩
  obtain ⟨x',y',hq⟩:=hq;obtain ⟨sx',sy'⟩:=uy (rc:=(x,y)) hla sx sy hq;have hz3:ndN (net.take (j+1)) (Nd.z,some (r,c))=(Z1,some (x',y')):=by rw [hzz];exact congrArg _ hq
  have HZ:Hid (ndN (net.take (j+1)) (Nd.z,some (r,c))=(Z1,some (x',y'))/\side x'=true/\side y'=true/\nB Z1 (1000*(j+1:Nat))):=⟨hz3,sx',sy',by rw [hZ1];exact hz2.add hnd (by omega)⟩
  have HZ1:=Lib.hid hZ1;have HZ2:=Lib.hid hz2;have HND:=Lib.hid hnd;have SX:=Lib.hid sx;have SY:=Lib.hid sy;have HQ:=Lib.hid hq;clear hlj hmem hvj hlen hz hz1 sx sy hz2 hnd hZ1 hzz hq sx' sy' hz3;rcases hlv.cases hla with ⟨a,b,A0,p0,A1,p1,rfl,hm,_,_,rfl⟩ | ⟨rfl,rfl⟩ | ⟨a,b,c',gm,om,cm,Fm,rfl,hm,_,hgc,rfl⟩
  ·obtain ⟨z9,c9_0,f9_0,c9_1,f9_1,c9_2,f9_2,c9_3,f9_3⟩:=BA.f4;have hxy:a.r=x'/\y=y':=by have h:=HQ.out;unfold dr at h;rw [if_pos rfl] at h;simp only [List.getD_cons_zero] at h;split at h <;> simp at h;obtain ⟨h1,h2⟩:=h;exact ⟨h1,h2⟩
   obtain ⟨rfl,rfl⟩:=hxy;have HZA:Hid (Z1=Z.add (cpN a.r x y)):=HZ1.out;have HNB:Hid (nB (cpN a.r x y) 1000):=HND.out;have HM:=Lib.hid hm;clear hm;clear HZ1 HND HQ hlv hla
   go_wp2_with fail
   clear z9 c9_0 f9_0 c9_1 f9_1 c9_2 f9_2 c9_3 f9_3;obtain ⟨S,KP,KQ,KA,G9⟩:=uf BA;obtain ⟨g9_0,g9_1,g9_2,g9_3⟩:=Cs.f4 G9;refine eH true S (by kernel_rfl) (by kernel_rfl) (fun _=>by kernel_rfl) (KP.out _ (Below.refl _ _).drew) ?_
   intro hne;have hb:=(Below.refl wr.heap.size wr).drew;obtain ⟨w11,hd⟩:∃ u,u=wr.drew:=⟨_,rfl⟩;rw [<- hd] at hb ⊢
   (try simp only [Nat.add_assoc,Nat.reduceAdd])
   clear hd;have X:=Lib.hid hb;replace BA:=BA.aa hb;replace O:=O.trans (hb.mono mw);replace mw:=O.size;clear hb
   repeat (first | (refine aF (by rfl) (by rfl) ?_;intro K hK;go_big_quiet_op;go_big_quiet_on) | (refine aG (by rfl) ?_))
   refine bj (by rfl) (by rfl) (fun K hK=> ?_)
   unfold Oper.gives
   go_simp
   go_invoke;go_simp
   refine (oS (aA HM.out.1).1 SX.out SY.out w11).mono ?_;rintro e w12 ⟨rfl,hb⟩;replace X:=Lib.hid (X.out.trans (hb.mono X.out.size));refine ⟨_,rfl,hK _ _ ⟨⟨_,KP.out _ X.out⟩,rfl⟩ ?_⟩;clear hK K;replace BA:=BA.aa hb;replace O:=O.trans (hb.mono mw);replace mw:=O.size;clear hb
   repeat (first | (refine aF (by rfl) (by rfl) ?_;intro K hK;go_big_quiet_op;go_big_quiet_on) | (refine aG (by rfl) ?_))
   refine bj (by rfl) (by rfl) (fun K hK=> ?_)
   unfold Oper.gives
   go_simp
   refine (bY HZA HZ2.out HNB.out (by omega) (by omega) w12).mono ?_
   rintro e w13 ⟨rfl,hb⟩;replace X:=Lib.hid (X.out.trans (hb.mono X.out.size));refine ⟨_,rfl,hK _ _ ⟨⟨_,KP.out _ X.out⟩,rfl⟩ ?_⟩;clear hK K;replace BA:=BA.aa hb;replace O:=O.trans (hb.mono mw);replace mw:=O.size;clear hb
   repeat (first | (refine aF (by rfl) (by rfl) ?_;intro K hK;go_big_quiet_op;go_big_quiet_on) | (refine aG (by rfl) ?_))
   obtain ⟨z9,c9_0,f9_0,c9_1,f9_1,c9_2,f9_2,c9_3,f9_3⟩:=BA.f4;refine aV rfl (by rfl) (by rfl) (fun K hK=> ?_)
   unfold Oper.gives
   go_simp
   refine hK _ _ ?_;clear hK K;clear z9 c9_0 f9_0 c9_1 f9_1 c9_2 f9_2 c9_3 f9_3
   repeat (first | (refine aF (by rfl) (by rfl) ?_;intro K hK;go_big_quiet_op;go_big_quiet_on) | (refine aG (by rfl) ?_))
   refine aI ?_;clear hne KP KQ KA X g9_0 g9_1 g9_2 g9_3 G9;obtain ⟨z9,c9_0,f9_0,c9_1,f9_1,c9_2,f9_2,c9_3,f9_3⟩:=BA.f4
   go_wp2_with fail
   obtain ⟨uw14,hu⟩:∃ u,u=((((w13.setCell ⟨w3.heap.size,0,none⟩ (.int .i64 Z1.a)).setCell ⟨w3.heap.size,1,none⟩ (.int .i64 Z1.b)).setCell ⟨w3.heap.size,2,none⟩ (.int .i64 Z1.c)).setCell ⟨w3.heap.size,3,none⟩ (.int .i64 Z1.d)):=⟨_,rfl⟩;rw [<- hu];replace BA:Blk uw14 (w3.heap.size) 92 #[.int .i64 Z1.a,.int .i64 Z1.b,.int .i64 Z1.c,.int .i64 Z1.d]:=Blk.cast hu ((((BA.dc 0 _).dc 1 _).dc 2 _).dc 3 _);have q1:w3.heap.size<=w3.heap.size:=by omega
   replace O:=Below.cast hu ((((O.setCell q1 _).setCell q1 _).setCell q1 _).setCell q1 _);replace mw:=O.size;clear z9 c9_0 f9_0 c9_1 f9_1 c9_2 f9_2 c9_3 f9_3;clear hu;clear q1;refine (jq _ _ _ _ _ _ _ _ uw14).mono ?_;rintro e w15 ⟨rfl,hb⟩;replace BA:=BA.aa hb;replace O:=O.trans (hb.mono mw);replace mw:=O.size;clear hb;obtain ⟨z9,c9_0,f9_0,c9_1,f9_1,c9_2,f9_2,c9_3,f9_3⟩:=BA.f4;clear z9 c9_0 f9_0 c9_1 f9_1 c9_2 f9_2 c9_3 f9_3;go_wp2
   go_roundw
   case rel=>exact ⟨j+1,_,_,Z1,by omega,rfl,rfl,by go_num,HZ,BA,O⟩
   case measure=>simp [intOf];omega
  ·obtain ⟨z9,c9_0,f9_0,c9_1,f9_1,c9_2,f9_2,c9_3,f9_3⟩:=BA.f4;have hxy:x=x'/\y=y':=by have h:=HQ.out;unfold dr at h;rw [if_neg (by decide),if_pos rfl] at h;simp at h;obtain ⟨h1,h2⟩:=h;exact ⟨h1,h2⟩
   obtain ⟨rfl,rfl⟩:=hxy;have HZA:Hid (Z1=Z.add (lkN (x*y))):=HZ1.out;have HNB:Hid (nB (lkN (x*y)) 1000):=HND.out;clear HZ1 HND HQ hlv hla
   go_wp2_with fail
   clear z9 c9_0 f9_0 c9_1 f9_1 c9_2 f9_2 c9_3 f9_3;obtain ⟨S,KP,KQ,KA,G9⟩:=uf BA;obtain ⟨g9_0,g9_1,g9_2,g9_3⟩:=Cs.f4 G9;refine eH true S (by kernel_rfl) (by kernel_rfl) (fun _=>by kernel_rfl) (KP.out _ (Below.refl _ _).drew) ?_
   intro hne;have hb:=(Below.refl wr.heap.size wr).drew;obtain ⟨w11,hd⟩:∃ u,u=wr.drew:=⟨_,rfl⟩;rw [<- hd] at hb ⊢
   (try simp only [Nat.add_assoc,Nat.reduceAdd])
   clear hd;have X:=Lib.hid hb;replace BA:=BA.aa hb;replace O:=O.trans (hb.mono mw);replace mw:=O.size;clear hb
   repeat (first | (refine aF (by rfl) (by rfl) ?_;intro K hK;go_big_quiet_op;go_big_quiet_on) | (refine aG (by rfl) ?_))
   refine bj (by rfl) (by rfl) (fun K hK=> ?_)
   unfold Oper.gives
   go_simp
   go_invoke;go_simp
   refine (qi SX.out SY.out w11).mono ?_;rintro e w12 ⟨rfl,hb⟩;replace X:=Lib.hid (X.out.trans (hb.mono X.out.size));refine ⟨_,rfl,hK _ _ ⟨⟨_,KP.out _ X.out⟩,rfl⟩ ?_⟩;clear hK K;replace BA:=BA.aa hb;replace O:=O.trans (hb.mono mw);replace mw:=O.size;clear hb
   repeat (first | (refine aF (by rfl) (by rfl) ?_;intro K hK;go_big_quiet_op;go_big_quiet_on) | (refine aG (by rfl) ?_))
   refine bj (by rfl) (by rfl) (fun K hK=> ?_)
   unfold Oper.gives
   go_simp
   refine (bY HZA HZ2.out HNB.out (by omega) (by omega) w12).mono ?_
   rintro e w13 ⟨rfl,hb⟩;replace X:=Lib.hid (X.out.trans (hb.mono X.out.size));refine ⟨_,rfl,hK _ _ ⟨⟨_,KP.out _ X.out⟩,rfl⟩ ?_⟩;clear hK K;replace BA:=BA.aa hb;replace O:=O.trans (hb.mono mw);replace mw:=O.size;clear hb
   repeat (first | (refine aF (by rfl) (by rfl) ?_;intro K hK;go_big_quiet_op;go_big_quiet_on) | (refine aG (by rfl) ?_))
   obtain ⟨z9,c9_0,f9_0,c9_1,f9_1,c9_2,f9_2,c9_3,f9_3⟩:=BA.f4;refine aV rfl (by rfl) (by rfl) (fun K hK=> ?_)
   unfold Oper.gives
   go_simp
   refine hK _ _ ?_;clear hK K;clear z9 c9_0 f9_0 c9_1 f9_1 c9_2 f9_2 c9_3 f9_3
   repeat (first | (refine aF (by rfl) (by rfl) ?_;intro K hK;go_big_quiet_op;go_big_quiet_on) | (refine aG (by rfl) ?_))
   refine aI ?_;clear hne KP KQ KA X g9_0 g9_1 g9_2 g9_3 G9;obtain ⟨z9,c9_0,f9_0,c9_1,f9_1,c9_2,f9_2,c9_3,f9_3⟩:=BA.f4
   go_wp2_with fail
   obtain ⟨uw14,hu⟩:∃ u,u=((((w13.setCell ⟨w3.heap.size,0,none⟩ (.int .i64 Z1.a)).setCell ⟨w3.heap.size,1,none⟩ (.int .i64 Z1.b)).setCell ⟨w3.heap.size,2,none⟩ (.int .i64 Z1.c)).setCell ⟨w3.heap.size,3,none⟩ (.int .i64 Z1.d)):=⟨_,rfl⟩;rw [<- hu];replace BA:Blk uw14 (w3.heap.size) 92 #[.int .i64 Z1.a,.int .i64 Z1.b,.int .i64 Z1.c,.int .i64 Z1.d]:=Blk.cast hu ((((BA.dc 0 _).dc 1 _).dc 2 _).dc 3 _);have q1:w3.heap.size<=w3.heap.size:=by omega
   replace O:=Below.cast hu ((((O.setCell q1 _).setCell q1 _).setCell q1 _).setCell q1 _);replace mw:=O.size;clear z9 c9_0 f9_0 c9_1 f9_1 c9_2 f9_2 c9_3 f9_3;clear hu;clear q1;refine (kj _ _ uw14).mono ?_;rintro e w15 ⟨rfl,hb⟩;replace BA:=BA.aa hb;replace O:=O.trans (hb.mono mw);replace mw:=O.size;clear hb;obtain ⟨z9,c9_0,f9_0,c9_1,f9_1,c9_2,f9_2,c9_3,f9_3⟩:=BA.f4;clear z9 c9_0 f9_0 c9_1 f9_1 c9_2 f9_2 c9_3 f9_3;go_wp2
   go_roundw
   case rel=>exact ⟨j+1,_,_,Z1,by omega,rfl,rfl,by go_num,HZ,BA,O⟩
   case measure=>simp [intOf];omega
  ·obtain ⟨z9,c9_0,f9_0,c9_1,f9_1,c9_2,f9_2,c9_3,f9_3⟩:=BA.f4;have hxy:x=x'/\y=y':=by have h:=HQ.out;unfold dr at h;rw [if_neg (by simp),if_neg (by simp)] at h;split at h <;> simp at h;obtain ⟨h1,h2⟩:=h;exact ⟨h1,h2⟩
   obtain ⟨rfl,rfl⟩:=hxy;have HZA:Hid (Z1=Z.add (ndL (3,[a,b,c']) (x,y))):=HZ1.out;have HNB:Hid (nB (ndL (3,[a,b,c']) (x,y)) 1000):=HND.out;have HM:=Lib.hid hm;clear hm;clear HZ1 HND HQ hlv hla
   go_wp2_with fail
   clear z9 c9_0 f9_0 c9_1 f9_1 c9_2 f9_2 c9_3 f9_3;obtain ⟨S,KP,KQ,KA,G9⟩:=uf BA;obtain ⟨g9_0,g9_1,g9_2,g9_3⟩:=Cs.f4 G9;refine eH true S (by kernel_rfl) (by kernel_rfl) (fun _=>by kernel_rfl) (KP.out _ (Below.refl _ _).drew) ?_
   intro hne;have hb:=(Below.refl wr.heap.size wr).drew;obtain ⟨w11,hd⟩:∃ u,u=wr.drew:=⟨_,rfl⟩;rw [<- hd] at hb ⊢
   (try simp only [Nat.add_assoc,Nat.reduceAdd])
   clear hd;have X:=Lib.hid hb;replace BA:=BA.aa hb;replace O:=O.trans (hb.mono mw);replace mw:=O.size;clear hb
   repeat (first | (refine aF (by rfl) (by rfl) ?_;intro K hK;go_big_quiet_op;go_big_quiet_on) | (refine aG (by rfl) ?_))
   refine bj (by rfl) (by rfl) (fun K hK=> ?_)
   unfold Oper.gives
   go_simp
   go_invoke;go_simp
   refine (rE (l:=(3,[a,b,c'])) rfl SX.out SY.out w11).mono ?_;rintro e w12 ⟨rfl,hb⟩;replace X:=Lib.hid (X.out.trans (hb.mono X.out.size));refine ⟨_,rfl,hK _ _ ⟨⟨_,KP.out _ X.out⟩,rfl⟩ ?_⟩;clear hK K;replace BA:=BA.aa hb;replace O:=O.trans (hb.mono mw);replace mw:=O.size;clear hb
   repeat (first | (refine aF (by rfl) (by rfl) ?_;intro K hK;go_big_quiet_op;go_big_quiet_on) | (refine aG (by rfl) ?_))
   refine bj (by rfl) (by rfl) (fun K hK=> ?_)
   unfold Oper.gives
   go_simp
   refine (bY HZA HZ2.out HNB.out (by omega) (by omega) w12).mono ?_
   rintro e w13 ⟨rfl,hb⟩;replace X:=Lib.hid (X.out.trans (hb.mono X.out.size));refine ⟨_,rfl,hK _ _ ⟨⟨_,KP.out _ X.out⟩,rfl⟩ ?_⟩;clear hK K;replace BA:=BA.aa hb;replace O:=O.trans (hb.mono mw);replace mw:=O.size;clear hb
   repeat (first | (refine aF (by rfl) (by rfl) ?_;intro K hK;go_big_quiet_op;go_big_quiet_on) | (refine aG (by rfl) ?_))
   obtain ⟨z9,c9_0,f9_0,c9_1,f9_1,c9_2,f9_2,c9_3,f9_3⟩:=BA.f4;refine aV rfl (by rfl) (by rfl) (fun K hK=> ?_)
   unfold Oper.gives
   go_simp
   refine hK _ _ ?_;clear hK K;clear z9 c9_0 f9_0 c9_1 f9_1 c9_2 f9_2 c9_3 f9_3
   repeat (first | (refine aF (by rfl) (by rfl) ?_;intro K hK;go_big_quiet_op;go_big_quiet_on) | (refine aG (by rfl) ?_))
   refine aI ?_;clear hne KP KQ KA X g9_0 g9_1 g9_2 g9_3 G9;obtain ⟨z9,c9_0,f9_0,c9_1,f9_1,c9_2,f9_2,c9_3,f9_3⟩:=BA.f4
   go_wp2_with fail
   obtain ⟨uw14,hu⟩:∃ u,u=((((w13.setCell ⟨w3.heap.size,0,none⟩ (.int .i64 Z1.a)).setCell ⟨w3.heap.size,1,none⟩ (.int .i64 Z1.b)).setCell ⟨w3.heap.size,2,none⟩ (.int .i64 Z1.c)).setCell ⟨w3.heap.size,3,none⟩ (.int .i64 Z1.d)):=⟨_,rfl⟩;rw [<- hu];replace BA:Blk uw14 (w3.heap.size) 92 #[.int .i64 Z1.a,.int .i64 Z1.b,.int .i64 Z1.c,.int .i64 Z1.d]:=Blk.cast hu ((((BA.dc 0 _).dc 1 _).dc 2 _).dc 3 _);have q1:w3.heap.size<=w3.heap.size:=by omega
   replace O:=Below.cast hu ((((O.setCell q1 _).setCell q1 _).setCell q1 _).setCell q1 _);replace mw:=O.size;clear z9 c9_0 f9_0 c9_1 f9_1 c9_2 f9_2 c9_3 f9_3;clear hu;clear q1;refine (DL _ _ _ uw14 (Nat.lt_of_lt_of_le hgc.1 (HB3.out.trans (O.mono HB3.out.size)).size) (((HB3.out.trans (O.mono HB3.out.size)).cell (p:=⟨gm,om,none⟩) hgc.1).trans hgc.2)).mono ?_;rintro e w15 ⟨rfl,hb⟩;replace BA:=BA.aa hb;replace O:=O.trans (hb.mono mw);replace mw:=O.size;clear hb;obtain ⟨z9,c9_0,f9_0,c9_1,f9_1,c9_2,f9_2,c9_3,f9_3⟩:=BA.f4;clear z9 c9_0 f9_0 c9_1 f9_1 c9_2 f9_2 c9_3 f9_3;go_wp2
   go_roundw
   case rel=>exact ⟨j+1,_,_,Z1,by omega,rfl,rfl,by go_num,HZ,BA,O⟩
   case measure=>simp [intOf];omega
 ·obtain rfl:j=n:=by omega
  rw [List.take_of_length_le (by have:=HN.out;omega)] at hz1
  have B1:=HB1.out.aa O;replace O:=HOB.out.trans (O.mono HOB.out.size);have mw:=O.size;have HZ1:=Lib.hid hz1;clear hz sx sy hz2 hz1;obtain ⟨z1,c1_0,f1_0,c1_1,f1_1,c1_2,f1_2,c1_3,f1_3⟩:=B1.f4;obtain ⟨z9,c9_0,f9_0,c9_1,f9_1,c9_2,f9_2,c9_3,f9_3⟩:=BA.f4;go_wp2;have q1:w.heap.size<=w.heap.size:=by omega
  exact bodyPost_ret (v:=NV Z) (by simp [results,Tryz.results128,go_sem,z1,c1_0,f1_0,c1_1,f1_1,c1_2,f1_2,c1_3,f1_3,z9,c9_0,f9_0,c9_1,f9_1,c9_2,f9_2,c9_3,f9_3,(by omega:¬ w.heap.size=w3.heap.size),(by omega:¬ w3.heap.size=w.heap.size)]) rfl ⟨by rw [HZ1.out],((((O.setCell q1 _).setCell q1 _).setCell q1 _).setCell q1 _)⟩
end
end Go.Proofs.YtjciicheoghcdaaGreatDoor
