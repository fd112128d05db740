/- Part of the proof: the law FnServiceRun is true for every input. -/
import Derived.BigQuiet
import Derived.Deep.QuietTactic
import Derived.Laws.MakeOwn
import Derived.Laws.StructEq
import Derived.Lib.IndexMore
import Derived.Lib.LaidTab
import Derived.Lib.TrimByte
import Derived.OpenShut
import Derived.Shelf.Vars
import Derived.WalkSmall
import Derived.Test.YtjciicheoghcdaaGreatDoorVa
import Derived.Test.YtjciicheoghcdaaGreatDoorVb
import Derived.Test.YtjciicheoghcdaaGreatDoorVc
import Derived.Test.YtjciicheoghcdaaGreatDoorVk
import Derived.Test.YtjciicheoghcdaaGreatDoorVr
namespace Go.Proofs.YtjciicheoghcdaaGreatDoor
open Go.RowKit Go.Proofs.Tryz
set_option linter.all false
set_option maxRecDepth 20000
set_option maxHeartbeats 16000000
def Tab (w:World):Prop:=∃ g,prog.globalNamed "internal/strconv.uint64pow10" = some g/\g<w.heap.size/\Lib.TabIs prog w "internal/strconv.uint64pow10" .u64 Lib.pow10Tab
theorem Tab.below {w w':World} {B:Nat} (h:Tab w) (hb:Below B w w') (hB:w.heap.size<=B):Tab w':=by
 obtain⟨g,h1,h2,h3⟩:=h
 exact⟨g,h1,Nat.lt_of_lt_of_le h2 hb.size,var?_below hb h1 (Nat.lt_of_lt_of_le h2 hB) h3⟩
theorem Tab.of {w:World} {g:Nat} (hg:prog.globalNamed "internal/strconv.uint64pow10" = some g) (h:Lib.TabIs prog w "internal/strconv.uint64pow10" .u64 Lib.pow10Tab):Tab w :=
 ⟨g,hg,World.block_lt_of_cell? w _ (h.cell hg 0 (by decide)),h⟩
def iD (w:World):Prop:=∃ m:Int,w.cell? ⟨0,0,none⟩=some (.int .i64 m)
theorem iD.below {w w':World} {B:Nat} (h:iD w) (hb:Below B w w') (hB:w.heap.size<=B):iD w':=by
 obtain⟨m,hm⟩:=h
 exact⟨m,(hb.cell (p:=⟨_,0,none⟩) (Nat.lt_of_lt_of_le (World.block_lt_of_cell? w _ hm) hB)).trans hm⟩
theorem iD.of {w:World} (h:w.ShapedOpen prog):iD w :=
 Go.Proofs.cell_of_shapedOpen_int h (g:=0) (t:=3) (zero:=#[.int .i64 0]) (by decide +kernel) (by kernel_rfl) rfl (by kernel_rfl) (by kernel_rfl) underlying3
theorem Ek (w:World) (k:Nat) (os:Array Obj):Below w.heap.size w (Go.Sort.grow (w.drewN k) os):=by
 refine⟨rfl,rfl,rfl,?_,fun i hi=>?_⟩
 ·show w.heap.size<=(w.heap++os).size
  simp
 ·show (w.heap++os)[i]?=w.heap[i]?
  exact Array.getElem?_append_left hi
theorem xQ {n:Int} (h:0<=n):Lib.itoa n=Lib.decDigits n.toNat:=by unfold Lib.itoa;rw[if_neg (by omega)]
theorem ni (n:Int) (h0:0<=n) (h1:n<=1000000) (w:World) (ht:Tab w):Calls prog 109 #[.int .i64 n] w fun e w'=>e= .returned (.string (bs (Lib.decDigits n.toNat)))/\Below w.heap.size w w':=by
 obtain⟨g,h2,h3,h4⟩:=ht;refine(Tryz.strconv_Itoa n (by omega) (by omega) w h4).mono ?_
 rintro e w' ⟨rfl,k,os,rfl⟩
 exact⟨by rw[xQ h0];rfl,Ek w k os⟩
abbrev strs (l:List (List UInt8)):List Value:=l.map fun x=>Value.string (bs x)
theorem sS (base:Nat) (A:Option Addr) (n cap:Nat) (xs:List (List UInt8)) (sep:List UInt8) (w:World) (hx:VO w base 9 1 A n cap (strs xs)) (hn:n<=1048576) (hlen:(Lib.join xs sep).length<=140737488355328) :
  Calls prog 60 #[.slice A n cap,.string (bs sep)] w fun e w'=>e= .returned (.string (bs (Lib.join xs sep)))/\Below w.heap.size w w':=by
 have hl:=hx.len;simp only[strs,List.length_map,Nat.mul_one] at hl
 by_cases h0:n=0
 ·subst h0;have e0:xs=[]:=List.eq_nil_of_length_eq_zero hl;subst e0;refine (Tryz.strings_Join_none A cap (bs sep) w).mono ?_;rintro e w' ⟨rfl,rfl⟩
  exact⟨rfl,Below.refl _ _⟩
 ·obtain⟨g,rfl,hg,hlt⟩:=hx.pos (by omega)
  subst hl;have e1:(xs.map bs).length=xs.length:=List.length_map ..;have e2:(xs.map bs).map (fun x=>x.data.toList)=xs:=by
   rw[List.map_map]
   exact List.map_id'' (fun _=>rfl) _
  have h:=Tryz.strings_Join g 0 cap (xs.map bs) (bs sep) w (fun j x hj=>by
   have hj':j<xs.length:=by
    rcases Nat.lt_or_ge j xs.length with h|h
    ·exact h
    ·rw[List.getElem?_eq_none (by simpa using h)] at hj;cases hj
   rw[Nat.zero_add,hx.cell j (by omega)]
   rw[List.getElem?_map] at hj ⊢;rw[List.getElem?_eq_getElem hj'] at hj ⊢;injection hj with hj;rw[<-hj]
   rfl) hlt (by rw[e1];omega) (by rw[e1];exact hx.dC.1) (by rw[e2];exact hlen)
  rw[e1,e2] at h
  exact h
theorem mQ:(prog.info? 9).map (fun i=>(i.zero,i.size,i.bytes))=some (some (.string ByteArray.empty),1,16):=by kernel_rfl
def fd:Nat->List UInt8
 | 1=>[48,54,50,53]|2=>[49,50,53]|3=>[49,56,55,53]|4=>[50,53]|5=>[51,49,50,53]|6=>[51,55,53]|7=>[52,51,55,53]|8=>[53]
 | 9=>[53,54,50,53]|10=>[54,50,53]|11=>[54,56,55,53]|12=>[55,53]|13=>[56,49,50,53]|14=>[56,55,53]|15=>[57,51,55,53]|_=>[]
def fm:Nat->Nat
 | 1=>4|2=>3|3=>4|4=>2|5=>4|6=>3|7=>4|8=>1|9=>4|10=>3|11=>4|12=>2|13=>4|14=>3|15=>4|_=>0
theorem tT:∀ r:Fin 16,r.val≠0->fd r.val=UInt8.ofNat (48+10*r.val/16)::fd (10*r.val%16)/\fm (10*r.val%16)<fm r.val:=by decide
theorem Bz:∀ r:Fin 16,fm r.val<=4:=by decide
theorem dd5 (u:Nat) (h1:10000<=u) (h2:u<=99999):Lib.decDigits u=[UInt8.ofNat (48+u/10/10/10/10),UInt8.ofNat (48+u/10/10/10%10),UInt8.ofNat (48+u/10/10%10),UInt8.ofNat (48+u/10%10),UInt8.ofNat (48+u%10)]:=by
 rw[Lib.decDigits,dif_neg (by omega),Lib.decDigits,dif_neg (by omega),Lib.decDigits,dif_neg (by omega),Lib.decDigits,dif_neg (by omega),Lib.decDigits,dif_pos (by omega)]
 rfl
theorem vS:∀ r:Fin 16,r.val≠0->Lib.trimRightB [UInt8.ofNat (48+(10000+r.val*625)/10/10/10%10),UInt8.ofNat (48+(10000+r.val*625)/10/10%10),UInt8.ofNat (48+(10000+r.val*625)/10%10),UInt8.ofNat (48+(10000+r.val*625)%10)] 48=fd r.val:=by decide
theorem tU (r:Nat) (h0:r≠0) (h:r<16):Lib.trimRightB ((Lib.decDigits (10000+r*625)).drop 1) 48=fd r:=by
 rw[dd5 _ (by omega) (by omega)]
 exact vS ⟨r,h⟩ h0
theorem pV:∀ r:Fin 16,(fd r.val).length<=4:=by decide
def fxn (n:Int):List UInt8:=dec (n/16)++(if n%16=0 then [] else 46::fd (n%16).toNat)
def fxs (n:Int):List UInt8:=if n<0 then 45::fxn (-n) else fxn n
def fx (x:Int):List UInt8:=fxs (sgn x)
theorem tV {n:Int} (h0:0<=n) (h:n<=4096):(fxn n).length<=300:=by
 have h1:=(e7 (n/16).toNat).2;have h2:=pV ⟨(n%16).toNat,by omega⟩
 unfold fxn;rw[List.length_append];have h3:(dec (n/16)).length<=258:=by unfold dec;omega
 split
 ·simp only[List.length_nil];omega
 ·simp only[List.length_cons];dsimp only at h2;omega
theorem jf (x:Int): -4096<=sgn x/\sgn x<=4096:=by
 unfold sgn
 split
 ·have:=kJ (by assumption);split <;> omega
 ·omega
theorem sU (x:Int):(fx x).length<=301:=by
 have h:=jf x;unfold fx fxs
 split
 ·have:=tV (n:= -sgn x) (by omega) (by omega)
  simp only[List.length_cons];omega
 ·have:=tV (n:=sgn x) (by omega) (by omega)
  omega
def sg (n:Int):List UInt8:=if n<0 then [45] else []
def ab (n:Int):Int:=if n<0 then -n else n
theorem pZ (n:Int):fxs n=sg n++fxn (ab n):=by
 unfold fxs sg ab
 split <;> rfl
def Frx (n:Int) (r:Int) (s:ByteArray):Prop:=s.size+fm r.toNat<=900/\∃ l,s=bs l/\fxs n=l++fd r.toNat
theorem Frx.start (n:Int) (hn: -4096<=n/\n<=4096):ab n%16≠0->Frx n (ab n%16) (bs (sg n++dec (ab n/16)++[46])):=by
 intro h;have e:fxs n=(sg n++dec (ab n/16)++[46])++fd (ab n%16).toNat:=by
  rw[pZ,fxn,if_neg h]
  simp[List.append_assoc]
 refine⟨?_,_,rfl,e⟩;rw[aK];have h1:=(e7 (ab n/16).toNat).2;have h2:ab n<=4096:=by unfold ab;split <;> omega
 have h3:(sg n).length<=1:=by unfold sg;split <;> simp
 simp only[List.length_append,List.length_cons,List.length_nil];have h4:fm (ab n%16).toNat<=4:=Bz ⟨(ab n%16).toNat,by omega⟩
 unfold dec
 omega
theorem sT {r:Int} (h0:0<r) (h1:r<=15):fm (10*r%16).toNat<fm r.toNat:=by
 have h4:=(tT ⟨r.toNat,by omega⟩ (by dsimp only;omega)).2
 dsimp only at h4
 have e2:(10*r%16).toNat=10*r.toNat%16:=by omega
 rw[e2]
 exact h4
theorem Frx.step {n r:Int} {s:ByteArray} (h:Frx n r s) (h0:0<r) (h1:r<=15):Frx n (10*r%16) (s++bs (dec (10*r/16))):=by
 have hdc:=sT h0 h1;obtain⟨hs,l,rfl,h3⟩:=h;obtain⟨k,rfl⟩:∃ k:Nat,r=(k:Int):=⟨r.toNat,by omega⟩
 have h4:=(tT ⟨k,by omega⟩ (by dsimp only;omega)).1
 dsimp only at h4
 have e1:((k:Int)).toNat=k:=by omega
 have e2:(10*(k:Int)%16).toNat=10*k%16:=by omega
 have e3:dec (10*(k:Int)/16)=[UInt8.ofNat (48+10*k/16)]:=by
  unfold dec;have:(10*(k:Int)/16).toNat=10*k/16:=by omega
  rw[this,Lib.decDigits,dif_pos (by omega)]
 rw[e3,bN];refine⟨by rw[aK] at hs ⊢;simp only[List.length_append,List.length_cons,List.length_nil];omega,_,rfl,?_⟩
 rw[h3,e1,h4,e2,List.append_assoc]
 rfl
theorem Frx.fin {n:Int} {s:ByteArray} (h:Frx n 0 s):s=bs (fxs n):=by
 obtain⟨_,l,rfl,h3⟩:=h;rw[h3]
 simp[fd]
theorem iV {n:Int} (h:ab n%16=0):fxs n=sg n++dec (ab n/16):=by rw[pZ,fxn,if_pos h,List.append_nil]
theorem rl {n:Int} (h:ab n%16≠0):fxs n=sg n++dec (ab n/16)++[46]++fd (ab n%16).toNat:=by
 rw[pZ,fxn,if_neg h];simp[List.append_assoc]
theorem fo {l:List (List UInt8)} (h:l≠[]) (x sep:List UInt8):Lib.join (l++[x]) sep=Lib.join l sep++sep++x:=by
 cases l with
 | nil=>exact absurd rfl h
 | cons a l=>simp[Lib.join_cons,Lib.joinTail]
def rt (v:List Int) (c k:Nat):List UInt8:=Lib.join (((v.drop (k*c)).take c).map fx) [32]
def mtx (v:List Int) (r c:Nat):List UInt8:=Lib.join ((List.range r).map (rt v c)) [59,32]
def mt (m:Mx):List UInt8:=if mvB m=true then mtx m.v m.r.toNat m.c.toNat else []
def st (v:List Int) (c:Nat):Nat->List UInt8
 | 0=>[]
 | k+1=>st v c k++(if k=0 then [] else if k%c=0 then [59,32] else [32])++fx (v.getD k 0)
theorem tF (v:List Int) (a j:Nat) (h:a+j<v.length):(v.drop a).take (j+1)=(v.drop a).take j++[v.getD (a+j) 0]:=by
 have h2:j<(v.drop a).length:=by rw[List.length_drop];omega
 rw[List.take_succ_eq_append_getElem h2,List.getD_eq_getElem?_getD,List.getElem?_eq_getElem h]
 simp
theorem Cd (v:List Int) (c k:Nat) (hc:0<c) (hl:k*c+c<=v.length):∀ j,1<=j->j<=c->st v c (k*c+j)=st v c (k*c)++(if k=0 then [] else [59,32])++Lib.join (((v.drop (k*c)).take j).map fx) [32]:=by
 intro j
 induction j with
 | zero=>intro h;omega
 | succ j ih =>
  intro _ hj;have e:k*c+(j+1)=(k*c+j)+1:=by omega
  rw[e,st,tF v (k*c) j (by omega),List.map_append]
  by_cases hj0:j=0
  ·subst hj0;simp only[Nat.add_zero,List.take_zero,List.map_nil,List.nil_append,List.map_cons,Lib.join_one,Nat.mul_mod_left]
   by_cases hk:k=0
   ·subst hk;simp
   ·have:k*c≠0:=Nat.mul_ne_zero hk (by omega)
    rw[if_neg this,if_neg hk]
    simp
  ·have hne:((v.drop (k*c)).take j).map fx≠[]:=by
    intro h;have:=congrArg List.length h;rw[List.length_map,List.length_take,List.length_drop,List.length_nil] at this
    omega
   have hmod:(k*c+j)%c=j:=by rw[Nat.add_comm,Nat.add_mul_mod_self_right];exact Nat.mod_eq_of_lt (by omega)
   rw[ih (by omega) (by omega),hmod,if_neg (show ¬k*c+j=0 by omega),if_neg hj0,List.map_cons,List.map_nil,fo hne]
   simp[List.append_assoc]
theorem uz (v:List Int) (c:Nat) (hc:0<c):∀ r,r*c<=v.length->st v c (r*c)=mtx v r c:=by
 intro r
 induction r with
 | zero=>intro _;rw[Nat.zero_mul];rfl
 | succ r ih =>
  intro h;have e:(r+1)*c=r*c+c:=Nat.succ_mul r c;rw[e] at h;rw[e,Cd v c r hc h c hc Ql,ih (by omega)]
  unfold mtx;rw[List.range_succ,List.map_append]
  by_cases hr:r=0
  ·subst hr
   simp[Lib.join,List.intercalate,rt]
  ·have hne:(List.range r).map (rt v c)≠[]:=by
    intro h;have:=congrArg List.length h
    simp at this
    omega
   rw[if_neg hr,List.map_cons,List.map_nil,fo hne]
   rfl
theorem Bg (v:List Int) (c:Nat):∀ k,(st v c k).length<=k*303:=by
 intro k
 induction k with
 | zero=>simp[st]
 | succ k ih =>
  have h:=sU (v.getD k 0);rw[st,List.length_append,List.length_append];have h2:(if k=0 then ([]:List UInt8) else if k%c=0 then [59,32] else [32]).length<=2:=by
   split
   ·simp
   ·split <;> simp
  omega
theorem s_ {m:Mx} (h:mvB m=false):mt m=[]:=if_neg (by rw[h];decide)
theorem er {m:Mx} (h:mvB m=true):∃ R C:Nat,m.r=(R:Int)/\m.c=(C:Int)/\1<=R/\R<=5/\1<=C/\C<=5/\m.v.length=R*C/\R*C<=25/\m.v.all rv=true:=by
 unfold mvB at h;simp only[Bool.and_eq_true,decide_eq_true_eq] at h;obtain⟨h1,h2,h3,h4⟩:=h;obtain⟨a1,a2⟩:=bI h1;obtain⟨b1,b2⟩:=bI h2;refine⟨m.r.toNat,m.c.toNat,by omega,by omega,by omega,by omega,by omega,by omega,?_,?_,h4⟩
 ·have:(m.v.length:Int)=((m.r.toNat*m.c.toNat:Nat):Int):=by
   rw[h3]
   push_cast
   rw[Int.toNat_of_nonneg (by omega),Int.toNat_of_nonneg (by omega)]
  exact_mod_cast this
 ·exact Nat.mul_le_mul (show m.r.toNat<=5 by omega) (show m.c.toNat<=5 by omega)
theorem l_ {m:Mx} {R C:Nat} (h:mvB m=true) (hr:m.r=(R:Int)) (hc:m.c=(C:Int)):mt m=mtx m.v R C:=by
 unfold mt;rw[if_pos h,hr,hc]
 simp
theorem sQ {v:List Int} (h:v.all rv=true) {k:Nat} (hk:k<v.length):0<=v.getD k 0/\v.getD k 0<=4095:=by
 rw[List.all_eq_true] at h;have h2:=h _ (j7 hk)
 exact kJ h2
theorem yU (s:ByteArray):(⟨#[]⟩:ByteArray)++s=s:=by
 rw[<-fe s]
 show bs []++bs _=_
 rw[bN,List.nil_append]
theorem dM (x:Int) (hx:0<=x/\x<=4095) (w:World):Calls prog 98 #[.int .i64 x] w fun e w'=>e= .returned (.string (bs (fx x)))/\Below w.heap.size w w':=by
 obtain⟨n,hn⟩:∃ n,n=sgn x:=⟨_,rfl⟩;have hbd:=jf x;rw[<-hn] at hbd;obtain⟨b0,b1⟩:=hbd;have HF:Hid (fx x=fxs n):=by show _=_;rw[hn];rfl
 have HN:=Qh hn;clear hn
 by_cases hneg:n<0
 ·obtain⟨m,hm⟩:∃ m,m= -n:=⟨_,rfl⟩;have q1:0<=m:=by omega
  have q1':m<=4096:=by omega
  have q2:0<=m/16:=by omega
  have q3:m/16<=1000000:=by omega
  have HAB:Hid (m=ab n):=by show m=ab n;unfold ab;rw[if_pos hneg];exact hm
  have hm2: -n=m:=hm.symm;clear hm
  go_enter func98,ntmps98
  go_wp2_with fail
  refine Qc (ak x hx w) ?_
  go_wp2_with fail
  refine Qc (dN x w) ?_;rw[<-HN.out]
  go_wp2_with fail
  refine(eO (m/16) q2 q3 w).mono ?_;rintro e w1 ⟨rfl,hb1⟩;obtain⟨r,hr⟩:∃ r,r=bs (dec (m/16)):=⟨_,rfl⟩;have hr2:r=bs (Lib.decDigits (m/16).toNat):=hr;rw[<-hr2];clear hr2;have HB1:=Qh hb1;clear hb1;have hrs:r.size<=300:=by rw[hr,aK];unfold dec;have:=(e7 (m/16).toNat).2;omega
  obtain⟨t,ht⟩:∃ t,(⟨#[45]⟩:ByteArray)++r=t:=⟨_,rfl⟩;have e45:ByteArray.size ⟨#[45]⟩=1:=rfl;have ho0:=cK (a:=1) (b:=r.size) (by omega)
  have hts:t.size<=301:=by rw[<-ht,ByteArray.size_append];omega
  have HT:Hid (t=bs (sg n++dec (m/16))):=by rw[<-ht,hr];unfold sg;rw[if_pos hneg];exact bN [45] _
  clear hr hrs
  by_cases hz:m%16=0
  ·have HZ:Hid (fxs n=sg n++dec (m/16)):=by show _=_;rw[HAB.out];exact iV (by rw[<-HAB.out];exact hz)
   clear hts;go_wp2;refine wp_loop_rounds 1 ?_;rw[rounds_succ];go_wp2
   go_ret
   exact⟨bT (by rw[HF.out,HZ.out,HT.out]),HB1.out⟩
  ·have hz2:0<m%16:=by omega
   have hz3:m%16<=15:=by omega
   obtain⟨t2,ht2⟩:∃ t2,t++(⟨#[46]⟩:ByteArray)=t2:=⟨_,rfl⟩;have e46:ByteArray.size ⟨#[46]⟩=1:=rfl;have ho2:=cK (a:=t.size) (b:=1) (by omega)
   have HFR:Hid (Frx n (m%16) t2):=by
    rw[<-ht2,HT.out,HAB.out];have h:=Frx.start n ⟨b0,b1⟩ (by rw[<-HAB.out];exact hz)
    have e:(⟨#[46]⟩:ByteArray)=bs [46]:=rfl;rw[e,bN]
    exact h
   clear hts hz;go_wp2;clear ho2 ho0
   go_loopw [4,5] (fun o q wr=>∃ (r:Int) (s:ByteArray),o= .string s/\q= .int .i64 r/\0<=r/\r<=15/\Hid (Frx n r s)/\Hid (Below w.heap.size w wr)) (fun _ q _=>fm (intOf q).toNat)
   case atStart=>exact⟨_,_,rfl,rfl,by omega,by omega,HFR,HB1⟩
   case round =>
    obtain⟨r,s,rfl,rfl,r0,r1,hfr,hbr⟩:=hrel
    by_cases hr0:0<r
    ·have p1:0<=10*r/16:=by omega
     have p2:10*r/16<=1000000:=by omega
     have p3:=IntWalk.i64_in (10*r) (by omega)
     have p4:0<=10*r:=by omega
     go_wp2_with fail
     refine(eO (10*r/16) p1 p2 wr).mono ?_;rintro e w2 ⟨rfl,hb2⟩;obtain⟨d,hd⟩:∃ d,d=bs (dec (10*r/16)):=⟨_,rfl⟩;have hd2:d=bs (Lib.decDigits (10*r/16).toNat):=hd;rw[<-hd2];clear hd2;have hds:d.size<=11:=by rw[hd,aK];unfold dec;have:=(e7 (10*r/16).toNat).2;omega
     have hss:s.size<=900:=by have:=hfr.out.1;omega
     have ho3:=cK (a:=s.size) (b:=d.size) (by omega)
     have HD:=Qh hd;have HB2:=Qh hb2;clear hd hds hss hb2;go_wp2
     go_roundw
     case rel=>exact⟨10*r%16,_,rfl,rfl,by omega,by omega,by rw[HD.out];exact hfr.out.step hr0 r1,bp HB2.out hbr.out.size hbr.out⟩
     case measure=>exact sT hr0 r1
    ·obtain rfl:r=0:=by omega
     have HFI:=Qh hfr.out.fin;clear hfr;go_wp2
     go_ret
     exact⟨bT (by rw[HF.out,HFI.out]),hbr.out⟩
 ·have hneg2:0<=n:=by omega
  have q1:0<=n:=by omega
  have q1':n<=4096:=by omega
  have q2:0<=n/16:=by omega
  have q3:n/16<=1000000:=by omega
  have HAB:Hid (n=ab n):=by show n=ab n;unfold ab;rw[if_neg (by omega)]
  go_enter func98,ntmps98
  go_wp2_with fail
  refine Qc (ak x hx w) ?_
  go_wp2_with fail
  refine Qc (dN x w) ?_;rw[<-HN.out]
  go_wp2_with fail
  refine(eO (n/16) q2 q3 w).mono ?_;rintro e w1 ⟨rfl,hb1⟩;obtain⟨r,hr⟩:∃ r,r=bs (dec (n/16)):=⟨_,rfl⟩;have hr2:r=bs (Lib.decDigits (n/16).toNat):=hr;rw[<-hr2];clear hr2;have HB1:=Qh hb1;clear hb1;have hrs:r.size<=300:=by rw[hr,aK];unfold dec;have:=(e7 (n/16).toNat).2;omega
  obtain⟨t,ht⟩:∃ t,(⟨#[]⟩:ByteArray)++r=t:=⟨_,rfl⟩;have e45:ByteArray.size ⟨#[]⟩=0:=rfl;have ho0:(9223372036854775807<r.size)=False:=by simp only[eq_iff_iff,iff_false];omega
  have hts:t.size<=301:=by rw[<-ht,yU];omega
  have HT:Hid (t=bs (sg n++dec (n/16))):=by rw[<-ht,hr];unfold sg;rw[if_neg (by omega)];exact bN [] _
  clear hr hrs
  by_cases hz:n%16=0
  ·have HZ:Hid (fxs n=sg n++dec (n/16)):=by show _=_;have e:=HAB.out;have h:=iV (n:=n) (by rw[<-e];exact hz);rw[<-e] at h;exact h
   clear hts;go_wp2;refine wp_loop_rounds 1 ?_;rw[rounds_succ];go_wp2
   go_ret
   exact⟨bT (by rw[HF.out,HZ.out,HT.out]),HB1.out⟩
  ·have hz2:0<n%16:=by omega
   have hz3:n%16<=15:=by omega
   obtain⟨t2,ht2⟩:∃ t2,t++(⟨#[46]⟩:ByteArray)=t2:=⟨_,rfl⟩;have e46:ByteArray.size ⟨#[46]⟩=1:=rfl;have ho2:=cK (a:=t.size) (b:=1) (by omega)
   have HFR:Hid (Frx n (n%16) t2):=by
    rw[<-ht2,HT.out];have h:=Frx.start n ⟨b0,b1⟩ (by rw[<-HAB.out];exact hz);rw[<-HAB.out] at h
    have e:(⟨#[46]⟩:ByteArray)=bs [46]:=rfl;rw[e,bN]
    exact h
   clear hts hz;go_wp2;clear ho2 ho0
   go_loopw [4,5] (fun o q wr=>∃ (r:Int) (s:ByteArray),o= .string s/\q= .int .i64 r/\0<=r/\r<=15/\Hid (Frx n r s)/\Hid (Below w.heap.size w wr)) (fun _ q _=>fm (intOf q).toNat)
   case atStart=>exact⟨_,_,rfl,rfl,by omega,by omega,HFR,HB1⟩
   case round =>
    obtain⟨r,s,rfl,rfl,r0,r1,hfr,hbr⟩:=hrel
    by_cases hr0:0<r
    ·have p1:0<=10*r/16:=by omega
     have p2:10*r/16<=1000000:=by omega
     have p3:=IntWalk.i64_in (10*r) (by omega)
     have p4:0<=10*r:=by omega
     go_wp2_with fail
     refine(eO (10*r/16) p1 p2 wr).mono ?_;rintro e w2 ⟨rfl,hb2⟩;obtain⟨d,hd⟩:∃ d,d=bs (dec (10*r/16)):=⟨_,rfl⟩;have hd2:d=bs (Lib.decDigits (10*r/16).toNat):=hd;rw[<-hd2];clear hd2;have hds:d.size<=11:=by rw[hd,aK];unfold dec;have:=(e7 (10*r/16).toNat).2;omega
     have hss:s.size<=900:=by have:=hfr.out.1;omega
     have ho3:=cK (a:=s.size) (b:=d.size) (by omega)
     have HD:=Qh hd;have HB2:=Qh hb2;clear hd hds hss hb2;go_wp2
     go_roundw
     case rel=>exact⟨10*r%16,_,rfl,rfl,by omega,by omega,by rw[HD.out];exact hfr.out.step hr0 r1,bp HB2.out hbr.out.size hbr.out⟩
     case measure=>exact sT hr0 r1
    ·obtain rfl:r=0:=by omega
     have HFI:=Qh hfr.out.fin;clear hfr;go_wp2
     go_ret
     exact⟨bT (by rw[HF.out,HFI.out]),hbr.out⟩
def Ms (v:List Int) (C:Nat) (k:Nat) (s:ByteArray):Prop:=s=bs (st v C k)
theorem Ms.size {v:List Int} {C k:Nat} {s:ByteArray} (h:Ms v C k s):s.size<=k*303:=by rw[h,aK];exact Bg v C k
theorem kM (r c:Int) (v:List Int) (A:Option Addr) (n cap:Nat) (w:World) (hx0:SI w A n v) (bn:n<=1048576) :
  Calls prog 47 #[MV r c A n cap] w fun e w'=>e= .returned (.string (bs (mt ⟨r,c,v⟩)))/\Below w.heap.size w w':=by
 obtain⟨u1,hu1⟩:∃ u,u=w.alloc (.cells #[.int .i64 r,.int .i64 c,.slice A n cap] 37):=⟨_,rfl⟩;have B1:Blk u1 w.heap.size 37 #[.int .i64 r,.int .i64 c,.slice A n cap]:=by rw[hu1];exact Blk.new w _ _
 have HO1:Hid (Below w.heap.size w u1):=by rw[hu1];exact Qb.alloc Ql _
 have HX0:=Qh hx0;have HX:Hid (SI u1 A n v):=SI.below hx0 HO1.out;have HB:=Qh B1;have hlen:=hx0.1
 by_cases h0:n=0
 ·subst h0;have hbad:Hid (mt ⟨r,c,v⟩=[]):=s_ (by
   cases h:mvB ⟨r,c,v⟩
   ·rfl
   ·obtain⟨R,C,_,_,a,_,b,_,hl,_⟩:=er h;have:=Nat.mul_pos (show 0<R by omega) (show 0<C by omega)
    dsimp only at hl
    omega)
  have c2:u1.cell? ⟨w.heap.size,2,none⟩=some (.slice A 0 cap):=B1.cell 2;clear B1 hx0 hlen
  go_enter func47,ntmps47
  go_wp2_with fail
  rw[<-hu1];clear hu1;refine wp_loop_rounds 1 ?_;rw[rounds_succ];go_wp2
  go_ret
  exact⟨bT (by rw[hbad.out];rfl),HO1.out⟩
 cases hv:mvB ⟨r,c,v⟩
 ·have hbad:Hid (mt ⟨r,c,v⟩=[]):=s_ hv;have c0:u1.cell? ⟨w.heap.size,0,none⟩=some (.int .i64 r):=B1.cell 0;have c1:u1.cell? ⟨w.heap.size,1,none⟩=some (.int .i64 c):=B1.cell 1;have c2:u1.cell? ⟨w.heap.size,2,none⟩=some (.slice A n cap):=B1.cell 2;have i0:(0:Int)<(n:Int):=by omega
  have HV:=Qh hv;clear B1 hx0 hlen hv
  go_enter func47,ntmps47
  go_wp2_with fail
  rw[<-hu1];clear hu1;refine wp_loop_rounds 1 ?_;rw[rounds_succ]
  go_wp2_with fail
  refine(aM r c v A n cap u1 HX.out (by omega)).mono ?_
  rintro e w1 ⟨rfl,hb1⟩;rw[HV.out];have HB1:=Qh hb1;clear hb1;go_wp2
  go_ret
  exact⟨bT (by rw[hbad.out];rfl),bp HB1.out HO1.out.size HO1.out⟩
 obtain⟨R,C,hr,hc,R1,R5,C1,C5,hl,h25,hall⟩:=er hv
 dsimp only at hr hc hl hall
 subst hr hc;have hmt:Hid (mt ⟨(R:Int),(C:Int),v⟩=st v C n):=by
  show _=_
  rw[l_ hv rfl rfl,<-uz v C (by omega) R (by omega)]
  congr 1
  omega
 have HV:=Qh hv;have HALL:=Qh hall;have HL:=Qh hlen;have hC0:((C:Int) == 0)=false:=by simp;omega
 have hCp:(0:Int)<(C:Int):=by omega
 have hn25:n<=25:=by omega
 obtain⟨b,off,rfl,hb,hcl⟩:=hx0.2 (by omega)
 have HCL:=Qh hcl;have c2:u1.cell? ⟨w.heap.size,2,none⟩=some (.slice (some ⟨b,off,none⟩) n cap):=B1.cell 2;clear B1 hx0 hlen hv hl hall hcl
 go_enter func47,ntmps47
 go_wp2_with fail
 rw[<-hu1];clear hu1 c2
 go_loopw [3,4] (fun o q wr=>∃ (k:Nat) (s:ByteArray),k<=n/\q= .int .i64 k/\o= .string s/\Hid (Ms v C k s)/\Hid (Blk wr w.heap.size 37 #[.int .i64 (R:Int),.int .i64 (C:Int),.slice (some ⟨b,off,none⟩) n cap])/\Hid (Below w.heap.size w wr)) (fun _ q _=>n-(intOf q).toNat)
 case atStart=>exact⟨0,_,Nat.zero_le _,rfl,rfl,rfl,HB,HO1⟩
 case round =>
  obtain⟨k,s,hk,rfl,rfl,hms,hblk,hbel⟩:=hrel;have c0:wr.cell? ⟨w.heap.size,0,none⟩=some (.int .i64 (R:Int)):=hblk.out.cell 0;have c1:wr.cell? ⟨w.heap.size,1,none⟩=some (.int .i64 (C:Int)):=hblk.out.cell 1;have c2:wr.cell? ⟨w.heap.size,2,none⟩=some (.slice (some ⟨b,off,none⟩) n cap):=hblk.out.cell 2
  by_cases hlt:k<n
  ·obtain⟨x,ex⟩:∃ x,x=v.getD k 0:=⟨_,rfl⟩;have i0:(0:Int)<=(k:Int):=by omega
   have i1:(k:Int)<(n:Int):=by omega
   go_wp2_with fail
   refine(aM (R:Int) (C:Int) v (some ⟨b,off,none⟩) n cap wr (SI.below HX0.out hbel.out) (by omega)).mono ?_
   rintro e w1 ⟨rfl,hb1⟩;rw[HV.out];have hblk1:=Qh (hblk.out.aa hb1);have hbel1:=Qh (bp hb1 hbel.out.size hbel.out);have cx:w1.cell? ⟨b,off+k,none⟩=some (.int .i64 x):=by
    rw[ex,hbel1.out.cell (p:=⟨b,off+k,none⟩) hb]
    exact HCL.out k hlt
   have d1:w1.cell? ⟨w.heap.size,1,none⟩=some (.int .i64 (C:Int)):=hblk1.out.cell 1;have d2:w1.cell? ⟨w.heap.size,2,none⟩=some (.slice (some ⟨b,off,none⟩) n cap):=hblk1.out.cell 2;have hx:=sQ HALL.out (k:=k) (by rw[HL.out];exact hlt)
   rw[<-ex] at hx;have EX:=Qh ex;have hss:s.size<=25*303:=Nat.le_trans hms.out.size (Nat.mul_le_mul_right _ (by omega))
   have hfl:=sU x;clear ex hb1 hblk hbel c0 c1 c2
   by_cases hk0:k=0
   ·subst hk0;rw[Nat.add_zero] at cx
    go_wp2_with fail
    refine(dM x hx w1).mono ?_;rintro e w2 ⟨rfl,hb2⟩;obtain⟨t,ht⟩:∃ t,t=bs (fx x):=⟨_,rfl⟩;have hts:t.size<=301:=by rw[ht,aK];exact hfl
    rw[<-ht];have HT:=Qh ht;have HB2:=Qh hb2;have ho:=cK (a:=s.size) (b:=t.size) (by omega)
    clear ht hb2 hts hss hfl;go_wp2
    go_roundw
    case rel=>exact⟨1,_,by omega,by go_num,rfl,by show _=_;rw[hms.out,HT.out,EX.out,bN];rfl,hblk1.out.aa HB2.out,bp HB2.out hbel1.out.size hbel1.out⟩
    case measure=>simp[intOf];omega
   ·have hk1:(0:Int)<(k:Int):=by omega
    by_cases hm:k%C=0
    ·have hm2:(k:Int)%(C:Int)=0:=by exact_mod_cast hm
     have ho0:=cK (a:=s.size) (b:=2) (by omega)
     have e32:ByteArray.size ⟨#[59,32]⟩=2:=rfl;obtain⟨s2,hs2⟩:∃ t,s++(⟨#[59,32]⟩:ByteArray)=t:=⟨_,rfl⟩;have hs2s:s2.size=s.size+2:=by rw[<-hs2];exact ByteArray.size_append
     go_wp2_with fail
     refine(dM x hx w1).mono ?_;rintro e w2 ⟨rfl,hb2⟩;obtain⟨t,ht⟩:∃ t,t=bs (fx x):=⟨_,rfl⟩;have hts:t.size<=301:=by rw[ht,aK];exact hfl
     rw[<-ht];have HT:=Qh ht;have HS2:=Qh hs2;have HB2:=Qh hb2;have ho:=cK (a:=s2.size) (b:=t.size) (by omega)
     have HK:=Qh hk0;have HM:=Qh hm;clear ht hb2 hts hss hfl hs2 hs2s ho0 e32 hm2;go_wp2
     go_roundw
     case rel =>
      have e2:(⟨#[59,32]⟩:ByteArray)=bs [59,32]:=rfl
      exact⟨k+1,_,by omega,by go_num,rfl,by show _=_;rw[HT.out,<-HS2.out,hms.out,EX.out,e2,bN,bN,st,if_neg HK.out,if_pos HM.out],hblk1.out.aa HB2.out,bp HB2.out hbel1.out.size hbel1.out⟩
     case measure=>simp[intOf];omega
    ·have hm2:((k:Int)%(C:Int) == 0)=false:=by
      rw[beq_eq_false_iff_ne];intro h
      exact hm (by exact_mod_cast h)
     have ho0:=cK (a:=s.size) (b:=1) (by omega)
     have e32:ByteArray.size ⟨#[32]⟩=1:=rfl;obtain⟨s2,hs2⟩:∃ t,s++(⟨#[32]⟩:ByteArray)=t:=⟨_,rfl⟩;have hs2s:s2.size=s.size+1:=by rw[<-hs2];exact ByteArray.size_append
     go_wp2_with fail
     refine(dM x hx w1).mono ?_;rintro e w2 ⟨rfl,hb2⟩;obtain⟨t,ht⟩:∃ t,t=bs (fx x):=⟨_,rfl⟩;have hts:t.size<=301:=by rw[ht,aK];exact hfl
     rw[<-ht];have HT:=Qh ht;have HS2:=Qh hs2;have HB2:=Qh hb2;have ho:=cK (a:=s2.size) (b:=t.size) (by omega)
     have HK:=Qh hk0;have HM:=Qh hm;clear ht hb2 hts hss hfl hs2 hs2s ho0 e32 hm2;go_wp2
     go_roundw
     case rel =>
      have e2:(⟨#[32]⟩:ByteArray)=bs [32]:=rfl
      exact⟨k+1,_,by omega,by go_num,rfl,by show _=_;rw[HT.out,<-HS2.out,hms.out,EX.out,e2,bN,bN,st,if_neg HK.out,if_neg HM.out],hblk1.out.aa HB2.out,bp HB2.out hbel1.out.size hbel1.out⟩
     case measure=>simp[intOf];omega
  ·obtain rfl:k=n:=by omega
   have HF:Hid (s=bs (mt ⟨(R:Int),(C:Int),v⟩)):=by show _=_;rw[hmt.out];exact hms.out
   have HBL:=Qh hbel.out;clear hms hmt hbel;go_wp2
   go_ret
   exact⟨bT HF.out,HBL.out⟩
theorem EF {w:World} {b:Nat} {t:TypeId} {ss:List ByteArray} (h:Blk w b t (ss.map Value.string).toArray) {i:Int} (h0:0<=i) (h1:i<(ss.length:Int)) {B:Nat} (hB:∀ s,s∈ss->s.size<=B):∃ s:ByteArray,w.cell? ⟨b,i.toNat,none⟩=some (.string s)/\s.size<=B:=by
 obtain⟨s,hs,hm⟩:=aH (xs:=ss) (j:=i.toNat) (by omega)
 refine⟨s,?_,hB s hm⟩;rw[h.cell]
 simp[hs]
theorem E5 (m:Mx):(mt m).length<=9000:=by
 by_cases h:mvB m=true
 ·obtain⟨R,C,e1,e2,_,_,hC,_,hl,h25,_⟩:=er h;unfold mt;rw[if_pos h,e1,e2,Int.toNat_natCast,Int.toNat_natCast,<-uz m.v C (by omega) R (by omega)]
  have:=Bg m.v C (R*C)
  omega
 ·unfold mt;rw[if_neg h]
  exact Nat.zero_le _
def Dtx (M:Nat) (w:World) (rb P:Nat) (e:Ending) (w':World):Prop:=∃ t:ByteArray,e= .returned (.string t)/\t.size<=M/\Rd w' rb P/\aZ rb w w'
theorem lf (rb P:Nat) (r c:Int) (hr:1<=r/\r<=5) (hc:1<=c/\c<=5) (w:World) (h:Rd w rb P) (hP:P<900000):Calls prog 75 #[.pointer (some ⟨rb,0,none⟩),.int .i64 r,.int .i64 c] w (Dtx 9000 w rb (P+220)):=by
 have hrw:=h.lt
 go_enter func75,ntmps75
 go_wp2_with fail
 refine(Et rb P r c 0 hr hc (by omega) w h (by omega)).mono ?_
 rintro e w4 ⟨r',c',A',cp,v,rfl,hos,hvl,hr4,ho⟩;have l4:=hr4.lt
 go_wp2_with fail
 refine(kM r' c' v A' _ cp w4 hos.si (by omega)).mono ?_
 rintro e w5 ⟨rfl,hb⟩;have R5:=Qh (hr4.below hb);have O5:=Qh (ho.below hb);obtain⟨s,hs⟩:∃ s,s=bs (mt ⟨r',c',v⟩):=⟨_,rfl⟩;have HS9:Hid (s.size<=9000):=by rw[hs];unfold Hid;rw[aK];exact E5 _
 rw[<-hs];clear hs hos hr4 ho hb;go_wp2
 go_ret
 exact⟨s,rfl,HS9.out,R5.out,O5.out⟩
theorem EN (rb P:Nat) (w:World) (h:Rd w rb P) (hP:P<800000):Calls prog 33 #[.pointer (some ⟨rb,0,none⟩)] w (Dtx 40000 w rb (P+1800)):=by
 have hrw:=h.lt
 go_enter func33,ntmps33
 go_wp2_with fail
 refine(EG rb P 6 (by omega) w h (by omega)).mono ?_
 rintro e w1 ⟨od,rfl,r1,o1⟩;have l1:=r1.lt
 cases od
 ·go_wp2_with fail
  refine(FE rb (P+1) 2 w1 r1 (by omega)).mono ?_
  rintro e w2 ⟨a,rfl,a0,a1,r2,q2⟩;have l2:=r2.lt;have T2:=o1.trans q2;clear r1 q2 o1;have hsd:1<=1+a/\1+a<=5:=by omega
  have ha:=IntWalk.i64_in (1+a) (by omega)
  obtain⟨sd,hsd2⟩:∃ s,s=1+a:=⟨_,rfl⟩
  go_wp2_with fail
  refine(lf rb (P+2) (1+a) (1+a) (by omega) (by omega) w2 r2 (by omega)).mono ?_
  rintro e w3 ⟨t1,rfl,z_t1,r3,q3⟩;have l3:=r3.lt;have T3:=T2.trans q3;clear r2 q3 T2;have n_x1:=cK (a:=6) (b:=t1.size) (by omega)
  obtain⟨x1,h_x1⟩:∃ x,(⟨#[100,101,110,115,101,32]⟩:ByteArray)++t1=x:=⟨_,rfl⟩;have z_x1:x1.size=6+t1.size:=by rw[<-h_x1];exact ByteArray.size_append
  have n_x2:=cK (a:=x1.size) (b:=3) (by omega)
  obtain⟨x2,h_x2⟩:∃ x,x1++(⟨#[32,124,32]⟩:ByteArray)=x:=⟨_,rfl⟩;have z_x2:x2.size=x1.size+3:=by rw[<-h_x2];exact ByteArray.size_append
  go_wp2_with fail
  refine(lf rb (P+2+220) (1+a) 1 (by omega) (by omega) w3 r3 (by omega)).mono ?_
  rintro e w4 ⟨t2,rfl,z_t2,r4,q4⟩;have l4:=r4.lt;have T4:=T3.trans q4;clear r3 q4 T3;have n_x3:=cK (a:=x2.size) (b:=t2.size) (by omega)
  obtain⟨x3,h_x3⟩:∃ x,x2++t2=x:=⟨_,rfl⟩;have z_x3:x3.size=x2.size+t2.size:=by rw[<-h_x3];exact ByteArray.size_append
  go_wp2_with fail
  refine(lf rb (P+2+220+220) (1+a) (1+a) (by omega) (by omega) w4 r4 (by omega)).mono ?_
  rintro e w5 ⟨t3,rfl,z_t3,r5,q5⟩;have l5:=r5.lt;have T5:=T4.trans q5;clear r4 q5 T4;have n_x4:=cK (a:=4) (b:=t3.size) (by omega)
  obtain⟨x4,h_x4⟩:∃ x,(⟨#[109,105,120,32]⟩:ByteArray)++t3=x:=⟨_,rfl⟩;have z_x4:x4.size=4+t3.size:=by rw[<-h_x4];exact ByteArray.size_append
  have n_x5:=cK (a:=x4.size) (b:=3) (by omega)
  obtain⟨x5,h_x5⟩:∃ x,x4++(⟨#[32,124,32]⟩:ByteArray)=x:=⟨_,rfl⟩;have z_x5:x5.size=x4.size+3:=by rw[<-h_x5];exact ByteArray.size_append
  go_wp2_with fail
  refine(lf rb (P+2+220+220+220) (1+a) (1+a) (by omega) (by omega) w5 r5 (by omega)).mono ?_
  rintro e w6 ⟨t4,rfl,z_t4,r6,q6⟩;have l6:=r6.lt;have T6:=T5.trans q6;clear r5 q6 T5;have n_x6:=cK (a:=x5.size) (b:=t4.size) (by omega)
  obtain⟨x6,h_x6⟩:∃ x,x5++t4=x:=⟨_,rfl⟩;have z_x6:x6.size=x5.size+t4.size:=by rw[<-h_x6];exact ByteArray.size_append
  have n_x7:=cK (a:=x6.size) (b:=3) (by omega)
  obtain⟨x7,h_x7⟩:∃ x,x6++(⟨#[32,124,32]⟩:ByteArray)=x:=⟨_,rfl⟩;have z_x7:x7.size=x6.size+3:=by rw[<-h_x7];exact ByteArray.size_append
  go_wp2_with fail
  refine(lf rb (P+2+220+220+220+220) (1+a) (1+a) (by omega) (by omega) w6 r6 (by omega)).mono ?_
  rintro e w7 ⟨t5,rfl,z_t5,r7,q7⟩;have l7:=r7.lt;have T7:=T6.trans q7;clear r6 q7 T6;have n_x8:=cK (a:=x7.size) (b:=t5.size) (by omega)
  obtain⟨x8,h_x8⟩:∃ x,x7++t5=x:=⟨_,rfl⟩;have z_x8:x8.size=x7.size+t5.size:=by rw[<-h_x8];exact ByteArray.size_append
  go_wp2_with fail
  refine(lf rb (P+2+220+220+220+220+220) (1+a) (1+a) (by omega) (by omega) w7 r7 (by omega)).mono ?_
  rintro e w8 ⟨t6,rfl,z_t6,r8,q8⟩;have l8:=r8.lt;have T8:=T7.trans q8;clear r7 q8 T7;have n_x9:=cK (a:=4) (b:=t6.size) (by omega)
  obtain⟨x9,h_x9⟩:∃ x,(⟨#[114,117,110,32]⟩:ByteArray)++t6=x:=⟨_,rfl⟩;have z_x9:x9.size=4+t6.size:=by rw[<-h_x9];exact ByteArray.size_append
  go_wp2_with fail
  refine(FE rb (P+2+220+220+220+220+220+220) 2 w8 r8 (by omega)).mono ?_
  rintro e w9 ⟨b,rfl,b0,b1,r9,q9⟩;have l9:=r9.lt;have T9:=T8.trans q9;clear r8 q9 T8;have hb2:=IntWalk.i64_in (1+b) (by omega)
  go_wp2_with fail
  refine(lf rb (P+2+220+220+220+220+220+220+1) (1+a) (1+b) (by omega) (by omega) w9 r9 (by omega)).mono ?_
  rintro e w10 ⟨t7,rfl,z_t7,r10,q10⟩;have l10:=r10.lt;have T10:=T9.trans q10;clear r9 q10 T9;have n_x10:=cK (a:=4) (b:=t7.size) (by omega)
  obtain⟨x10,h_x10⟩:∃ x,(⟨#[114,117,110,32]⟩:ByteArray)++t7=x:=⟨_,rfl⟩;have z_x10:x10.size=4+t7.size:=by rw[<-h_x10];exact ByteArray.size_append
  go_wp2_with fail
  refine(lf rb (P+2+220+220+220+220+220+220+1+220) (1+a) (1+a) (by omega) (by omega) w10 r10 (by omega)).mono ?_
  rintro e w11 ⟨t8,rfl,z_t8,r11,q11⟩;have l11:=r11.lt;have T11:=T10.trans q11;clear r10 q11 T10;have n_x11:=cK (a:=6) (b:=t8.size) (by omega)
  obtain⟨x11,h_x11⟩:∃ x,(⟨#[110,101,101,100,115,32]⟩:ByteArray)++t8=x:=⟨_,rfl⟩;have z_x11:x11.size=6+t8.size:=by rw[<-h_x11];exact ByteArray.size_append
  go_wp2_with fail
  obtain⟨u,hu⟩:∃ u,u=w11.alloc (.cells #[.string ⟨#[114,97,109,112]⟩,.string x3,.string x8,.string x9,.string x10,.string x11] 9):=⟨_,rfl⟩;rw[<-hu];have BU:Blk u w11.heap.size 9 (([⟨#[114,97,109,112]⟩,x3,x8,x9,x10,x11]:List ByteArray).map Value.string).toArray:=by rw[hu];exact Blk.new w11 9 #[.string ⟨#[114,97,109,112]⟩,.string x3,.string x8,.string x9,.string x10,.string x11]
  have RU:Rd u rb (P+2+220+220+220+220+220+220+1+220+220):=by rw[hu];exact r11.alloc _
  have TU:aZ rb w u:=by rw[hu];exact T11.alloc _
  have lu:=BU.lt;clear hu r11 T11;refine(FE rb (P+2+220+220+220+220+220+220+1+220+220) 6 u RU (by omega)).mono ?_
  rintro e w0 ⟨i,rfl,i0,i1,r0,q0⟩;have B0:=BU.only q0 (by omega)
  obtain⟨s,cs,hs⟩:=EF (B:=40000) B0 i0 (show i<((6:Nat):Int) by omega) (by intro s hs;simp only[List.mem_cons,List.not_mem_nil,or_false] at hs;rcases hs with rfl|rfl|rfl|rfl|rfl|rfl <;> first|omega|decide)
  have l0:=B0.lt;have R0:=Qh r0;have T0:=Qh (TU.trans q0);have HS:=Qh hs;clear BU RU TU r0 q0 B0 hs;go_wp2
  go_ret
  exact⟨s,rfl,by have:=HS.out;omega,R0.out.mono (by omega),T0.out⟩
 ·go_wp2_with fail
  obtain⟨u,hu⟩:∃ u,u=w1.alloc (.cells #[.string ⟨#[]⟩,.string ⟨#[100,101,110,115,101]⟩,.string ⟨#[100,101,110,115,101,32,49]⟩,.string ⟨#[100,101,110,115,101,32,49,32,124,32,120]⟩,.string ⟨#[114,97,109,112,32,49]⟩,.string ⟨#[109,105,120,32,49,32,124,32,49]⟩,.string ⟨#[114,117,110]⟩,.string ⟨#[114,117,110,32,120]⟩,.string ⟨#[114,117,110,32,49,32,124,32,49]⟩,.string ⟨#[110,101,101,100,115]⟩,.string ⟨#[82,97,109,112]⟩] 9):=⟨_,rfl⟩;rw[<-hu];have BU:Blk u w1.heap.size 9 (([⟨#[]⟩,⟨#[100,101,110,115,101]⟩,⟨#[100,101,110,115,101,32,49]⟩,⟨#[100,101,110,115,101,32,49,32,124,32,120]⟩,⟨#[114,97,109,112,32,49]⟩,⟨#[109,105,120,32,49,32,124,32,49]⟩,⟨#[114,117,110]⟩,⟨#[114,117,110,32,120]⟩,⟨#[114,117,110,32,49,32,124,32,49]⟩,⟨#[110,101,101,100,115]⟩,⟨#[82,97,109,112]⟩]:List ByteArray).map Value.string).toArray:=by rw[hu];exact Blk.new w1 9 #[.string ⟨#[]⟩,.string ⟨#[100,101,110,115,101]⟩,.string ⟨#[100,101,110,115,101,32,49]⟩,.string ⟨#[100,101,110,115,101,32,49,32,124,32,120]⟩,.string ⟨#[114,97,109,112,32,49]⟩,.string ⟨#[109,105,120,32,49,32,124,32,49]⟩,.string ⟨#[114,117,110]⟩,.string ⟨#[114,117,110,32,120]⟩,.string ⟨#[114,117,110,32,49,32,124,32,49]⟩,.string ⟨#[110,101,101,100,115]⟩,.string ⟨#[82,97,109,112]⟩]
  have RU:Rd u rb (P+1):=by rw[hu];exact r1.alloc _
  have TU:aZ rb w u:=by rw[hu];exact o1.alloc _
  have lu:=BU.lt;clear hu r1 o1;refine(FE rb (P+1) 11 u RU (by omega)).mono ?_
  rintro e w0 ⟨i,rfl,i0,i1,r0,q0⟩;have B0:=BU.only q0 (by omega)
  obtain⟨s,cs,hs⟩:=EF (B:=11) B0 i0 (show i<((11:Nat):Int) by omega) (by intro s hs;simp only[List.mem_cons,List.not_mem_nil,or_false] at hs;rcases hs with rfl|rfl|rfl|rfl|rfl|rfl|rfl|rfl|rfl|rfl|rfl <;> first|omega|decide)
  have l0:=B0.lt;have R0:=Qh r0;have T0:=Qh (TU.trans q0);have HS:=Qh hs;clear BU RU TU r0 q0 B0 hs;go_wp2
  go_ret
  exact⟨s,rfl,by have:=HS.out;omega,R0.out.mono (by omega),T0.out⟩
theorem As (l:List Int) (h:l.all okN=true):(jn l).length<=l.length*1000002:=by
 have key:∀ l:List Int,l.all okN=true->(Lib.joinTail [32] (l.map dec)).length<=l.length*1000002:=by
  intro l
  induction l with
  | nil=>intro _;simp[Lib.joinTail]
  | cons a l ih =>
   intro h;rw[List.all_cons,Bool.and_eq_true] at h;have h1:=ih h.2;have h2:=jZ h.1;simp only[Lib.joinTail,List.map_cons,List.flatten_cons,List.length_append,List.length_cons,List.length_nil] at h1 ⊢
   omega
 cases l with
 | nil=>simp[jn,Lib.join,List.intercalate]
 | cons a l =>
  rw[List.all_cons,Bool.and_eq_true] at h;have h1:=key l h.2;have h2:=jZ h.1;simp only[jn,List.map_cons,Lib.join_cons,List.length_append,List.length_cons]
  omega
def Ni (l:List Int) (w wr:World) (k:Nat) (A:Option Addr) (c:Nat):Prop :=
 (l.take k).all okN=true/\VO wr w.heap.size 9 1 A k c (strs ((l.take k).map dec))/\Below w.heap.size w wr
theorem Ni.push {l:List Int} {w wr wc w1:World} {k c g cap:Nat} {A:Option Addr} {o:Obj} (h:Ni l w wr k A c) (hk:k<l.length) (hx:okN (l.getD k 0)=true) (hb:Below wr.heap.size wr wc)
  (hown:w1.ownsRow w.heap.size 9 1 (.slice (some ⟨g,0,none⟩) (k+1) cap) (k+1) (strs ((l.take k).map dec)++[.string (bs (dec (l.getD k 0)))])) (hg:(wc.alloc o).grownBy w1 (Value.slice A k c).ownBlock)
  (hat:(Value.slice A k c).ownBlock=some g\/g=wc.heap.size+1):Ni l w w1 (k+1) (some ⟨g,0,none⟩) cap/\bJ A wc w1:=by
 obtain⟨h1,h2,h3⟩:=h;obtain⟨k1,k2,k3,_⟩:=VO.push (h2.below hb) (bp hb h3.size h3) Ql (Nat.le_trans h3.size hb.size) hown hg hat;have e:l.take (k+1)=l.take k++[l.getD k 0]:=tE l k hk;refine⟨⟨by rw[e,List.all_append,h1,List.all_cons,hx];rfl,?_,k2⟩,k3⟩
 rw[e,List.map_append,strs,List.map_append]
 exact k1
theorem rD (a b c d:Int) (w:World) (ht:Tab w):Calls prog 127 #[.agg #[.int .i64 a,.int .i64 b,.int .i64 c,.int .i64 d]] w fun e w'=>e= .returned (.string (bs (nt [a,b,c,d])))/\Below w.heap.size w w':=by
 obtain⟨u1,hu1⟩:∃ u,u=(w.alloc (.cells #[.int .i64 a,.int .i64 b,.int .i64 c,.int .i64 d] 92)).alloc (.cells #[.int .i64 a,.int .i64 b,.int .i64 c,.int .i64 d] 3):=⟨_,rfl⟩;have HB:Hid (Blk u1 (w.heap.size+1) 3 #[.int .i64 a,.int .i64 b,.int .i64 c,.int .i64 d]):=by
  rw[hu1];have h:=Blk.new (w.alloc (.cells #[.int .i64 a,.int .i64 b,.int .i64 c,.int .i64 d] 92)) 3 #[.int .i64 a,.int .i64 b,.int .i64 c,.int .i64 d]
  show Blk _ _ _ _
  simpa using h
 have HO:Hid (Below w.heap.size w u1):=by rw[hu1];exact(Qb.alloc Ql _).alloc (by simp) _
 have HT:=Qh ht;clear ht;obtain⟨i0',hi,hz0,hz1,hz2⟩:=info_parts mQ
 go_enter func127,ntmps127
 go_wp2_with fail
 rw[<-hu1];clear hu1
 go_loopw [3,16] (fun o q wr=>∃ (k:Nat) (A:Option Addr) (cp:Nat),k<=4/\q= .int .i64 k/\o= .slice A k cp/\Hid (Ni [a,b,c,d] w wr k A cp)/\Hid (Blk wr (w.heap.size+1) 3 #[.int .i64 a,.int .i64 b,.int .i64 c,.int .i64 d])) (fun _ q _=>4-(intOf q).toNat)
 case atStart=>exact⟨0,none,0,by omega,rfl,rfl,⟨rfl,VO.nil _ _ _ _,HO⟩,HB⟩
 case round =>
  obtain⟨k,A,cp,hk,rfl,rfl,hn,hb⟩:=hrel
  by_cases hlt:k<4
  ·obtain⟨x,ex⟩:∃ x,x=[a,b,c,d].getD k 0:=⟨_,rfl⟩;have cx:wr.cell? ⟨w.heap.size+1,k,none⟩=some (.int .i64 x):=by rw[hb.out.cell,ex];exact yR a b c d k hlt
   have EX:=Qh ex;have i0:(0:Int)<=(k:Int):=by omega
   have i1:(k:Int)<4:=by omega
   cases hx:okN x
   ·have HF:Hid (nt [a,b,c,d]=[]):=wI (BQ a b c d k hlt) (by rw[<-ex];exact hx)
    have hno:¬(0<=x/\x<=1000000):=of_decide_eq_false hx;clear ex hx
    by_cases hx0:x<0
    ·clear hno;go_wp2
     go_ret
     exact⟨bT (by rw[HF.out];rfl),hn.out.2.2⟩
    ·have hx1:1000000<x:=by omega
     clear hno;go_wp2
     go_ret
     exact⟨bT (by rw[HF.out];rfl),hn.out.2.2⟩
   ·obtain⟨x0,x1⟩:=wL hx;have HX:=Qh hx;clear ex hx
    go_wp2_with fail
    refine(ni x x0 x1 wr (HT.out.below hn.out.2.2 Ql)).mono ?_;rintro e w1 ⟨rfl,hb1⟩;have hr2:Lib.decDigits x.toNat=dec x:=rfl;rw[hr2];clear hr2;have hsz:=Nat.le_trans hn.out.2.2.size hb1.size
    go_wp2_with (at_builtin;refine wpList_append_lies _ rfl _ _ 48 rfl w.heap.size 9 i0' (.string ByteArray.empty) 1 16 underlying48 hi hz0 hz1 hz2 rfl (by decide) (.slice A k cp) k _ rfl (World.ownsRow.alloc (hn.out.2.1.below hb1) _) ⟨w1.heap.size,0,none⟩ 1 1 [.string (bs (dec x))] rfl rfl ?c1 ?c2 ?c3 ?c4 ?c5 ?c6 (w1.heap.size+1) ?c7 ?_)
    case c1=>exact fk _ _ _
    case c2=>simp[Value.oneCell']
    case c3=>omega
    case c4=>unfold maxLen;omega
    case c5=>omega
    case c6=>simp;omega
    case c7=>simp
    intro g cap' w2 hown hgrow hat _;obtain⟨hn2,hon⟩:=hn.out.push hlt (by rw[<-EX.out];exact HX.out) hb1 (by rw[<-EX.out];simpa [strs,List.map_take] using hown) hgrow hat
    have hb2:Hid (Blk w2 (w.heap.size+1) 3 #[.int .i64 a,.int .i64 b,.int .i64 c,.int .i64 d]):=Blk.BW (hb.out.aa hb1) hon (hn.out.2.1.below hb1) (by decide)
    have HN:=Qh hn2;clear hown hgrow hat hon hn2;go_wp2
    go_roundw
    case rel=>exact⟨k+1,_,_,by omega,by go_num,rfl,HN,hb2⟩
    case measure=>simp[intOf];omega
  ·obtain rfl:k=4:=by omega
   have e4:[a,b,c,d].take 4=[a,b,c,d]:=rfl;obtain⟨hall,hv,hbel⟩:=hn.out;rw[e4] at hall hv;have HF:Hid (nt [a,b,c,d]=jn [a,b,c,d]):=zj hall;have HL:Hid ((jn [a,b,c,d]).length<=4*1000002):=As _ hall;have HV:=Qh hv;have HB2:=Qh hbel;clear hn hall hv hbel e4
   go_wp2_with fail
   refine(sS w.heap.size A 4 cp ([a,b,c,d].map dec) [32] wr HV.out (by omega) (Nat.le_trans HL.out (by omega))).mono ?_
   rintro e w1 ⟨rfl,hb1⟩;go_wp2
   go_ret
   exact⟨bT (by rw[HF.out];rfl),bp hb1 HB2.out.size HB2.out⟩
theorem pS (u:Nat):∀ x∈Lib.decDigits u,48<=x.toNat/\x.toNat<=57:=by
 induction u using Nat.strongRecOn with
 | _ u ih =>
  rw[Lib.decDigits]
  split
  ·rename_i h
   intro x hx;have hx:x=UInt8.ofNat (48+u):=by simpa using hx
   subst hx;have:(UInt8.ofNat (48+u)).toNat=48+u:=by simp;omega
   omega
  ·rename_i h
   intro x hx;rcases List.mem_append.1 hx with hx|hx
   ·exact ih (u/10) (by omega) x hx
   ·have hx:x=UInt8.ofNat (48+u%10):=by simpa using hx
    subst hx;have:(UInt8.ofNat (48+u%10)).toNat=48+u%10:=by simp;omega
    omega
def isD (b:UInt8):Bool:=decide (48<=b.toNat/\b.toNat<=57)
def vl (l:List UInt8):Int:=l.foldl (fun a b=>a*10+((b.toNat:Int)-48)) 0
theorem qP (l:List UInt8) (b:UInt8):vl (l++[b])=vl l*10+((b.toNat:Int)-48):=by simp[vl,List.foldl_append]
theorem Cj (u:Nat):vl (Lib.decDigits u)=(u:Int):=by
 induction u using Nat.strongRecOn with
 | _ u ih =>
  rw[Lib.decDigits]
  split
  ·rename_i h
   have e:(UInt8.ofNat (48+u)).toNat=48+u:=by simp;omega
   simp only[vl,List.foldl_cons,List.foldl_nil,e]
   omega
  ·rename_i h
   have e:(UInt8.ofNat (48+u%10)).toNat=48+u%10:=by simp;omega
   rw[qP,ih (u/10) (by omega),e]
   omega
theorem tG {m:Int} (h:0<=m):vl (dec m)=m:=by unfold dec;rw[Cj];omega
theorem vR (m:Int):(dec m).all isD=true:=by
 rw[List.all_eq_true];intro x hx
 exact decide_eq_true (pS _ x hx)
theorem Em (m:Int):1<=(dec m).length:=(e7 _).1
theorem q_ {m:Int} (h:m<=999):(dec m).length<=3:=by
 unfold dec;rw[Lib.decDigits]
 split
 ·simp
 ·rw[Lib.decDigits]
  split
  ·simp
  ·rw[Lib.decDigits,dif_pos (by omega)]
   simp
theorem Ci (l:List UInt8) (h:l.all isD=true):∀ k,k<=l.length->0<=vl (l.take k)/\vl (l.take k)<=10 ^ k-1:=by
 intro k
 induction k with
 | zero=>intro _;simp[vl]
 | succ k ih =>
  intro hk;obtain⟨h1,h2⟩:=ih (by omega)
  rw[List.all_eq_true] at h;have h3:48<=(l[k]).toNat/\(l[k]).toNat<=57:=of_decide_eq_true (h _ (List.getElem_mem _));rw[List.take_succ_eq_append_getElem (by omega),qP,Int.pow_succ]
  omega
theorem vO {a:List UInt8} {c:UInt8} (h:c∉a):Lib.cut a [c]=(a,[],false):=by
 have e:Lib.index a [c]= -1:=by
  induction a with
  | nil=>rfl
  | cons b a ih =>
   have hb:b≠c:=fun e=>h (by rw[e];exact List.mem_cons_self ..)
   have hp:List.isPrefixOf [c] (b::a)=false:=by simp[List.isPrefixOf,Ne.symm hb]
   unfold Lib.index;rw[hp,ih (fun e=>h (List.mem_cons_of_mem _ e))]
   rfl
 unfold Lib.cut;rw[if_neg (by rw[e];decide)]
theorem v_ {a b:List UInt8} {c:UInt8} (h:c∉a):Lib.index (a++c::b) [c]=(a.length:Int):=by
 induction a with
 | nil=>simp[Lib.index,List.isPrefixOf]
 | cons d a ih =>
  have hb:d≠c:=fun e=>h (by rw[e];exact List.mem_cons_self ..)
  have hp:List.isPrefixOf [c] (d::(a++c::b))=false:=by simp[List.isPrefixOf,Ne.symm hb]
  rw[List.cons_append];unfold Lib.index;rw[hp,ih (fun e=>h (List.mem_cons_of_mem _ e))]
  have:(((a.length:Int)) == -1)=false:=by rw[beq_eq_false_iff_ne];omega
  simp[this]
theorem z_ {a b:List UInt8} {c:UInt8} (h:c∉a):Lib.cut (a++c::b) [c]=(a,b,true):=by
 unfold Lib.cut;rw[v_ h,if_pos (by omega)]
 simp
def dOf (l:List UInt8):Int×Bool:=if l.all isD=true then (vl l,decide (l≠[])) else (0,false)
def four (l:List UInt8):List UInt8:=l++List.replicate (4-l.length) 48
def pI (l:List UInt8):Option Int :=
 let c:=Lib.cut (Lib.trimPrefix l [45]) [46]
 if 3<c.1.length\/4<c.2.1.length then none
 else if (dOf c.1).2=true/\(dOf (four c.2.1)).2=true then
  some ((if Lib.hasPrefix l [45]=true then -((dOf c.1).1*16+(dOf (four c.2.1)).1/625) else (dOf c.1).1*16+(dOf (four c.2.1)).1/625)%4096)
 else none
theorem xM:∀ r:Fin 16,(fd r.val).length<=4/\dOf (four (fd r.val))=((r.val:Int)*625,true):=by decide
theorem tS (m:Int) {c:UInt8} (hc:c.toNat<48):c∉dec m:=fun h=>by have:=pS _ c h;omega
theorem xH {n:Int} (h0:0<=n) (h1:n<=4096):∃ b,Lib.cut (fxn n) [46]=(dec (n/16),fd (n%16).toNat,b):=by
 unfold fxn
 split
 ·rename_i h
  rw[List.append_nil,vO (tS _ (by decide)),h]
  exact⟨_,rfl⟩
 ·rw[z_ (tS _ (by decide))]
  exact⟨_,rfl⟩
theorem nr (n:Int):∃ d r,fxn n=d::r/\48<=d.toNat:=by
 have h:=Em (n/16)
 cases hd:dec (n/16) with
 | nil=>rw[hd] at h;simp at h
 | cons d t =>
  have hm:=pS (n/16).toNat d (by show d∈dec (n/16);rw[hd];exact List.mem_cons_self ..)
  unfold fxn;rw[hd]
  exact⟨d,_,rfl,hm.1⟩
theorem sV (n:Int):Lib.hasPrefix (fxs n) [45]=decide (n<0)/\Lib.trimPrefix (fxs n) [45]=fxn (ab n):=by
 unfold fxs ab
 by_cases h:n<0
 ·rw[if_pos h,if_pos h]
  simp[Lib.hasPrefix,Lib.trimPrefix,List.isPrefixOf,h]
 ·rw[if_neg h,if_neg h];obtain⟨d,r,e,hd⟩:=nr n;have hne:(45:UInt8)≠d:=fun e=>by rw[<-e] at hd;revert hd;decide
  rw[e]
  simp[Lib.hasPrefix,Lib.trimPrefix,List.isPrefixOf,h,hne]
theorem qI {x:Int} (h0:0<=x) (h1:x<=4095):sgn x%4096=x:=by
 unfold sgn;rw[if_pos (aR ⟨h0,h1⟩)]
 split <;> omega
theorem um {x:Int} (h0:0<=x) (h1:x<=4095):pI (fx x)=some x:=by
 have hb:=jf x;obtain⟨hp,ht⟩:=sV (sgn x);have ha:0<=ab (sgn x)/\ab (sgn x)<=4096:=by unfold ab;split <;> omega
 obtain⟨b,hc⟩:=xH ha.1 ha.2;have hr:=xM ⟨(ab (sgn x)%16).toNat,by omega⟩
 dsimp only at hr
 have hd:dOf (dec (ab (sgn x)/16))=(ab (sgn x)/16,true):=by
  unfold dOf;rw[if_pos (vR _),tG (by omega)]
  have:dec (ab (sgn x)/16)≠[]:=fun e=>by have:=Em (ab (sgn x)/16);rw[e] at this;simp at this
  simp[this]
 unfold pI fx;rw[hp,ht,hc]
 dsimp only
 rw[hr.2,hd];have hl:=q_ (m:=ab (sgn x)/16) (by omega)
 rw[if_neg (by omega),if_pos ⟨rfl,rfl⟩]
 have e1:(((ab (sgn x)%16).toNat:Int)*625)/625=ab (sgn x)%16:=by omega
 dsimp only
 rw[e1];have e2:ab (sgn x)/16*16+ab (sgn x)%16=ab (sgn x):=by omega
 rw[e2]
 congr 1
 have h3:=qI h0 h1;unfold ab
 by_cases h:sgn x<0
 ·simp only[h,decide_true,if_true]
  omega
 ·simp only[h,decide_false,if_false,Bool.false_eq_true]
  exact h3
theorem vT {x y:Int} (hx:0<=x/\x<=4095) (hy:0<=y/\y<=4095) (h:fx x=fx y):x=y:=by
 have h1:=um hx.1 hx.2;rw[h,um hy.1 hy.2] at h1;injection h1 with h1
 exact h1.symm
theorem y9 (x:Int):fx x≠[]:=by
 obtain⟨d,r,e,_⟩:=nr (ab (sgn x));unfold fx;rw[pZ,e]
 simp
def RF (l:List UInt8) (v:Int) (ok:Bool):Prop:=(ok=true/\(0<=v/\v<=4095)/\fx v=l)\/(ok=false/\v=0/\∀ x,0<=x->x<=4095->fx x≠l)
theorem RF.yes {l:List UInt8} {v:Int} (h0:0<=v/\v<=4095) (h:fx v=l):RF l v true:= .inl ⟨rfl,h0,h⟩
theorem RF.noI {l:List UInt8} (h:pI l=none):RF l 0 false:= .inr ⟨rfl,rfl,fun x h0 h1 e=>by rw[<-e,um h0 h1] at h;cases h⟩
theorem RF.Fk {l:List UInt8} {v:Int} (h:pI l=some v) (hne:fx v≠l):RF l 0 false:= .inr ⟨rfl,rfl,fun x h0 h1 e=>by
 rw[<-e,um h0 h1] at h;injection h with h
 exact hne (by rw[<-h];exact e)⟩
theorem lW (l:List UInt8) (w:World) (h:l.length<=1000000):Calls prog 110 #[.string (bs l),.string ⟨#[48]⟩] w fun e w'=>e= .returned (.string (bs (Lib.trimRightB l 48)))/\w=w':=by
 refine (Tryz.strings_TrimRight_one (bs l) 48 (by decide) w (by rw[aK];omega)).mono ?_;rintro e w' ⟨rfl,rfl⟩
 exact⟨rfl,rfl⟩
theorem na (l:List UInt8):(bs l).extract 1 (bs l).size=bs (l.drop 1):=by
 rw[aK]
 show ByteArray.extract ⟨l.toArray⟩ 1 l.length=_
 unfold bs;have h:(ByteArray.extract ⟨l.toArray⟩ 1 l.length).data.toList=l.drop 1:=by
  simp[ByteArray.data_extract]
  exact List.take_of_length_le (by simp)
 rw[<-fe (ByteArray.extract ⟨l.toArray⟩ 1 l.length),h]
 rfl
theorem iI (x:Int) (hx:0<=x/\x<=4095) (w:World) (ht:Tab w):Calls prog 59 #[.int .i64 x] w fun e w'=>e= .returned (.string (bs (fx x)))/\Below w.heap.size w w':=by
 obtain⟨n,hn⟩:∃ n,n=sgn x:=⟨_,rfl⟩;have hbd:=jf x;rw[<-hn] at hbd;obtain⟨b0,b1⟩:=hbd;have HF:Hid (fx x=fxs n):=by show _=_;rw[hn];rfl
 have HN:=Qh hn;have HTB:=Qh ht;clear hn ht
 by_cases hneg:n<0
 ·obtain⟨m,hm⟩:∃ m,m= -n:=⟨_,rfl⟩;have q1:0<=m:=by omega
  have q1':m<=4096:=by omega
  have q2:0<=m/16:=by omega
  have q3:m/16<=1000000:=by omega
  have HAB:Hid (m=ab n):=by show m=ab n;unfold ab;rw[if_pos hneg];exact hm
  have hm2: -n=m:=hm.symm;clear hm;have h15:=yI m
  go_enter func59,ntmps59
  go_wp2_with fail
  refine Qc (an x hx w) ?_
  go_wp2_with fail
  refine Qc (dL x w) ?_;rw[<-HN.out]
  go_wp2_with fail
  refine(ni (m/16) q2 q3 w HTB.out).mono ?_;rintro e w1 ⟨rfl,hb1⟩;obtain⟨r,hr⟩:∃ r,r=bs (dec (m/16)):=⟨_,rfl⟩;have hr2:r=bs (Lib.decDigits (m/16).toNat):=hr;rw[<-hr2];clear hr2;have HB1:=Qh hb1;clear hb1;have hrs:r.size<=300:=by rw[hr,aK];unfold dec;have:=(e7 (m/16).toNat).2;omega
  obtain⟨t,ht⟩:∃ t,(⟨#[45]⟩:ByteArray)++r=t:=⟨_,rfl⟩;have e45:ByteArray.size ⟨#[45]⟩=1:=rfl;have ho0:=cK (a:=1) (b:=r.size) (by omega)
  have hts:t.size<=301:=by rw[<-ht,ByteArray.size_append];omega
  have HT:Hid (t=bs (sg n++dec (m/16))):=by rw[<-ht,hr];unfold sg;rw[if_pos hneg];exact bN [45] _
  clear hr hrs
  by_cases hz:m%16=0
  ·have HZ:Hid (fxs n=sg n++dec (m/16)):=by show _=_;have e:=HAB.out;have h:=iV (n:=n) (by rw[<-e];exact hz);rw[<-e] at h;exact h
   clear hts;go_wp2
   go_ret
   exact⟨bT (by rw[HF.out,HZ.out,HT.out]),HB1.out⟩
  ·obtain⟨k,hk⟩:∃ k,k=m%16:=⟨_,rfl⟩;have hk0:0<k:=by omega
   have hk1:k<=15:=by omega
   have HZ:Hid (fxs n=sg n++dec (m/16)++[46]++fd k.toNat):=by show _=_;have e:=HAB.out;have h:=rl (n:=n) (by rw[<-e];exact hz);rw[<-e,<-hk] at h;exact h
   have hz2:m%16=k:=hk.symm;have hzf:(k == 0)=false:=by simp;omega
   clear hz hk;have p1:=IntWalk.i64_in (k*625) (by omega)
   have p2:=IntWalk.i64_in (10000+k*625) (by omega)
   have p3:0<=10000+k*625:=by omega
   have p4:10000+k*625<=1000000:=by omega
   obtain⟨t2,ht2⟩:∃ t2,t++(⟨#[46]⟩:ByteArray)=t2:=⟨_,rfl⟩;have e46:ByteArray.size ⟨#[46]⟩=1:=rfl;have ho2:=cK (a:=t.size) (b:=1) (by omega)
   have ht2s:t2.size<=302:=by rw[<-ht2,ByteArray.size_append];omega
   have HT2:Hid (t2=bs (sg n++dec (m/16)++[46])):=by
    rw[<-ht2,HT.out]
    exact bN _ [46]
   go_wp2_with fail
   refine(ni (10000+k*625) p3 p4 w1 (HTB.out.below HB1.out Ql)).mono ?_;rintro e w2 ⟨rfl,hb2⟩;obtain⟨d,hd⟩:∃ d,d=Lib.decDigits (10000+k*625).toNat:=⟨_,rfl⟩;rw[<-hd];have hdl:d.length=5:=by rw[hd,dd5 _ (by omega) (by omega)];rfl
   have hbz:(bs d).size=5:=by rw[aK];exact hdl
   have hex:(bs d).extract 1 5=bs (d.tail):=by have h:=na d;rw[hbz,List.drop_one] at h;exact h
   have HD:=Qh hd;have HB2:=Qh hb2;clear hd hb2
   go_wp2_with fail
   refine Qc (lW (d.tail) w2 (by rw[List.length_tail];omega)) ?_;have HTR:Hid (Lib.trimRightB (d.tail) 48=fd k.toNat):=by
    show _=_
    have h:=tU k.toNat (by omega) (by omega)
    have e:10000+k.toNat*625=(10000+k*625).toNat:=by omega
    rw[e,<-HD.out,List.drop_one] at h
    exact h
   obtain⟨z,hzz⟩:∃ z,z=bs (Lib.trimRightB (d.tail) 48):=⟨_,rfl⟩;rw[<-hzz];have hzs:z.size<=4:=by rw[hzz,HTR.out,aK];exact pV ⟨k.toNat,by omega⟩
   have ho3:=cK (a:=t2.size) (b:=z.size) (by omega)
   have HZZ:=Qh hzz;clear hzz hzs ht2s hts hex hbz hdl;go_wp2
   go_ret
   exact⟨bT (by rw[HF.out,HZ.out,HT2.out,HZZ.out,HTR.out,bN]),bp HB2.out HB1.out.size HB1.out⟩
 ·have hneg2:0<=n:=by omega
  have q1:0<=n:=by omega
  have q1':n<=4096:=by omega
  have q2:0<=n/16:=by omega
  have q3:n/16<=1000000:=by omega
  have HAB:Hid (n=ab n):=by show n=ab n;unfold ab;rw[if_neg (by omega)]
  have h15:=yI n
  go_enter func59,ntmps59
  go_wp2_with fail
  refine Qc (an x hx w) ?_
  go_wp2_with fail
  refine Qc (dL x w) ?_;rw[<-HN.out]
  go_wp2_with fail
  refine(ni (n/16) q2 q3 w HTB.out).mono ?_;rintro e w1 ⟨rfl,hb1⟩;obtain⟨r,hr⟩:∃ r,r=bs (dec (n/16)):=⟨_,rfl⟩;have hr2:r=bs (Lib.decDigits (n/16).toNat):=hr;rw[<-hr2];clear hr2;have HB1:=Qh hb1;clear hb1;have hrs:r.size<=300:=by rw[hr,aK];unfold dec;have:=(e7 (n/16).toNat).2;omega
  obtain⟨t,ht⟩:∃ t,(⟨#[]⟩:ByteArray)++r=t:=⟨_,rfl⟩;have e45:ByteArray.size ⟨#[]⟩=0:=rfl;have ho0:(9223372036854775807<r.size)=False:=by simp only[eq_iff_iff,iff_false];omega
  have hts:t.size<=301:=by rw[<-ht,yU];omega
  have HT:Hid (t=bs (sg n++dec (n/16))):=by rw[<-ht,hr];unfold sg;rw[if_neg (by omega)];exact bN [] _
  clear hr hrs
  by_cases hz:n%16=0
  ·have HZ:Hid (fxs n=sg n++dec (n/16)):=by show _=_;have e:=HAB.out;have h:=iV (n:=n) (by rw[<-e];exact hz);rw[<-e] at h;exact h
   clear hts;go_wp2
   go_ret
   exact⟨bT (by rw[HF.out,HZ.out,HT.out]),HB1.out⟩
  ·obtain⟨k,hk⟩:∃ k,k=n%16:=⟨_,rfl⟩;have hk0:0<k:=by omega
   have hk1:k<=15:=by omega
   have HZ:Hid (fxs n=sg n++dec (n/16)++[46]++fd k.toNat):=by show _=_;have e:=HAB.out;have h:=rl (n:=n) (by rw[<-e];exact hz);rw[<-e,<-hk] at h;exact h
   have hz2:n%16=k:=hk.symm;have hzf:(k == 0)=false:=by simp;omega
   clear hz hk;have p1:=IntWalk.i64_in (k*625) (by omega)
   have p2:=IntWalk.i64_in (10000+k*625) (by omega)
   have p3:0<=10000+k*625:=by omega
   have p4:10000+k*625<=1000000:=by omega
   obtain⟨t2,ht2⟩:∃ t2,t++(⟨#[46]⟩:ByteArray)=t2:=⟨_,rfl⟩;have e46:ByteArray.size ⟨#[46]⟩=1:=rfl;have ho2:=cK (a:=t.size) (b:=1) (by omega)
   have ht2s:t2.size<=302:=by rw[<-ht2,ByteArray.size_append];omega
   have HT2:Hid (t2=bs (sg n++dec (n/16)++[46])):=by
    rw[<-ht2,HT.out]
    exact bN _ [46]
   go_wp2_with fail
   refine(ni (10000+k*625) p3 p4 w1 (HTB.out.below HB1.out Ql)).mono ?_;rintro e w2 ⟨rfl,hb2⟩;obtain⟨d,hd⟩:∃ d,d=Lib.decDigits (10000+k*625).toNat:=⟨_,rfl⟩;rw[<-hd];have hdl:d.length=5:=by rw[hd,dd5 _ (by omega) (by omega)];rfl
   have hbz:(bs d).size=5:=by rw[aK];exact hdl
   have hex:(bs d).extract 1 5=bs (d.tail):=by have h:=na d;rw[hbz,List.drop_one] at h;exact h
   have HD:=Qh hd;have HB2:=Qh hb2;clear hd hb2
   go_wp2_with fail
   refine Qc (lW (d.tail) w2 (by rw[List.length_tail];omega)) ?_;have HTR:Hid (Lib.trimRightB (d.tail) 48=fd k.toNat):=by
    show _=_
    have h:=tU k.toNat (by omega) (by omega)
    have e:10000+k.toNat*625=(10000+k*625).toNat:=by omega
    rw[e,<-HD.out,List.drop_one] at h
    exact h
   obtain⟨z,hzz⟩:∃ z,z=bs (Lib.trimRightB (d.tail) 48):=⟨_,rfl⟩;rw[<-hzz];have hzs:z.size<=4:=by rw[hzz,HTR.out,aK];exact pV ⟨k.toNat,by omega⟩
   have ho3:=cK (a:=t2.size) (b:=z.size) (by omega)
   have HZZ:=Qh hzz;clear hzz hzs ht2s hts hex hbz hdl;go_wp2
   go_ret
   exact⟨bT (by rw[HF.out,HZ.out,HT2.out,HZZ.out,HTR.out,bN]),bp HB2.out HB1.out.size HB1.out⟩
theorem jo (a b:ByteArray):(a == b)=true↔a=b:=by
 rw[Go.beq_toListBytes,ByteArray.toList_eq,ByteArray.toList_eq,beq_iff_eq]
 constructor
 ·intro h;rw[<-fe a,<-fe b,h]
 ·rintro rfl
  rfl
theorem iE {a b:ByteArray} (h:a≠b):(a == b)=false:=by
 cases hh:a == b with
 | false=>rfl
 | true=>exact absurd ((jo _ _).1 hh) h
theorem mm (s:ByteArray):s.toList.isEmpty=(s == (⟨#[]⟩:ByteArray)):=by
 rw[Go.beq_toListBytes,ByteArray.toList_eq,ByteArray.toList_eq]
 cases s.data.toList <;> rfl
theorem zZ (s:ByteArray):s.data.toList.length=s.size:=Array.length_toList
theorem byte_at (s:ByteArray) (k:Nat) (h:k<s.size):∃ h2:k<s.data.toList.length,s.data.toList[k]=s[k]:=⟨by rw[zZ];exact h,rfl⟩
end Go.Proofs.YtjciicheoghcdaaGreatDoor
